/-
 The contracts of the buffer that write.
-/
import Derived.Test.YtiighkbehiddkaaGreatBu
namespace Go.Proofs.YtiighkbehiddkaaGreat
open Go.RowKit
set_option linter.unusedVariables false
set_option maxRecDepth 4000
theorem cl68 : callable Tryz.prog 68 = true := by kernel_rfl
theorem cl69 : callable Tryz.prog 69 = true := by kernel_rfl
theorem fo120_3 : fieldOff Tryz.prog 120 3 = some 3 := by kernel_rfl
theorem oc36 : oneCellTy Tryz.prog 36 = true := by kernel_rfl
theorem sz3 : (Tryz.prog.info? 3).map (·.size) = some 1 := by kernel_rfl
theorem sz36 : (Tryz.prog.info? 36).map (·.size) = some 1 := by kernel_rfl
theorem bput_ok (w : World) (lo g : Nat) (D : Option Nat) (m : Nat) (l : List UInt8) (p t : Nat) (hbuf : Buf w lo g D m l p t) (lo2 hi2 : Nat) (B : Option Addr) (c2 : Nat) (q : List UInt8) (hr2 : RdB w lo2 hi2 B c2 q) (hgq : g < lo2 ∨ hi2 ≤ g) (hDq : ∀ x, D = some x → x < lo2 ∨ hi2 ≤ x) (hp : p ≤ 4611686018427387904) (hlo : lo ≤ w.heap.size) :
  Fn Tryz.prog 69 #[(.pointer (some ⟨g, 0, none⟩)), (.slice B q.length c2)] w (fun v w' => v = .tuple #[.int .i64 ((min q.length (m - l.length) : Nat) : Int), .int .i64 0] ∧ (∃ D', Buf w' lo g D' m (l ++ (q.take (min q.length (m - l.length)))) (p + min q.length (m - l.length)) t ∧ Nx w D D') ∧ Ch g D w w')  := by
 obtain ⟨A, c, d, k, rfl, hb_g, hot, hkl, hdk, hkm, hlm, hm1, hm2⟩ := hbuf
 have hgl := hb_g.lt
 have hcd := hot.1
 have hcm := hot.2.1
 simp only [maxLen] at hcm
 have hC := Ch.refl g (blk A) w
 have hDlt : ∀ x, blk A = some x → lo ≤ x ∧ x < w.heap.size := fun x e => hot.lt e
 have hE := ext_refl w
 refine fn_enter (args := [(.pointer (some ⟨g, 0, none⟩)), (.slice B q.length c2)]) Tryz.func69 rfl rfl rfl ?_
 show WC _ _ _ _ [(0, (.pointer (some ⟨g, 0, none⟩))), (1, (.slice B q.length c2))] _
 refine wc_seq (wc_regionL ?_)
 iterate 2 refine va rfl rfl ?_
 refine q_nil (k_then (wc_seq (wc_seq (wc_regionL ?_))))
 refine vm rfl rfl ?_
 refine wl_val (or_call0 cl67 rfl rfl (bzero_ok _ _ _ _ _ _ _ _ _ hm1 hb_g)) rfl rfl rfl ?_
 refine q_nil (k_then ?_)
 refine wc_cond_f rfl ?_
 refine q_skip (k_then (wc_seq (wc_regionL ?_)))
 refine vm rfl rfl ?_
 refine wl_val (ov_len Tryz.underlying32 rfl) rfl rfl rfl ?_
 refine vm rfl rfl ?_
 refine wl_step (or_call0 cl68 rfl rfl (broom_ok _ _ _ _ _ _ _ _ ⟨_, _, _, _, rfl, hb_g, hot, hkl, hdk, hkm, hlm, hm1, hm2⟩)) rfl rfl rfl ?_
 rintro v w1 ⟨rfl, he12⟩
 replace hb_g := hb_g.ext he12
 replace hot := OwnT.ext hot he12
 replace hr2 := hr2.ext he12
 replace hC := hC.ext he12
 have hz_he12 := he12.size
 refine wl_val (ov_min rfl rfl (m := ((min q.length (m - l.length) : Nat) : Int)) (by omega)) rfl rfl rfl ?_
 refine va rfl rfl ?_
 refine q_nil (k_then (wc_seq ?_))
 refine wc_drawA mixed ?_
 intro w2 hx4
 replace hb_g := hb_g.ext hx4
 replace hot := OwnT.ext hot hx4
 replace hr2 := hr2.ext hx4
 replace hC := hC.ext hx4
 have hz_hx4 := hx4.size
 refine wa_main (Fam ((fun a b => Gr a b (blk A)))) (fam1 ((fun _ _ h => Ext.row h _))) (fam2 ((fun _ _ _ h k => Gr.gr h k (fun g e => .inl e)))) (fam3 ((fun _ _ h => Ext.row h _)) ((fun _ _ _ h k => Gr.gr h k (fun g e => .inl e)))) 0 9 [(14, eqv (.pointer (some ⟨g, 0, none⟩))), (15, eqv (.pointer (some ⟨g, 0, none⟩))), (16, eqv (.pointer (some ⟨g, 0, none⟩))), (17, eqv (.pointer (some ⟨g, 1, none⟩))), (18, eqv (.slice A d.length c)), (19, eqv (.slice B q.length c2)), (20, eqv (.int .i64 ((min q.length (m - l.length) : Nat) : Int))), (21, isB 0 (q.take (min q.length (m - l.length)))), (22, (fun v w' => ∃ A22 c22, v = .slice A22 (d ++ (q.take (min q.length (m - l.length)))).length c22 ∧ OwnT w' lo 5 A22 c22 (d ++ (q.take (min q.length (m - l.length)))) ∧ Nx w (blk A) (blk A22)))] [[], [], [1], [2], [3], [], [], [5, 6], [4, 7]] [[0], [0], [0], [0], [0], [0], [0], [], []] [[0], [0], [0], [0], [0], [0], [0], [0], []] [none, none, none, none, none, none, none, none, some 0] [true, true, true, true, true, true, true, false, true] [0] _ [] [] (fun _ _ h => h) trivial (by kernel_rfl) rfl ⟨stbA (fun _ => stb_eqv _) _, stbA (fun _ => stb_eqv _) _, stbA (fun _ => stb_eqv _) _, stbA (fun _ => stb_eqv _) _, stbA (fun _ => stb_eqv _) _, stbA (fun _ => stb_eqv _) _, stbA (fun _ => stb_eqv _) _, stb0 (stb_isB _ _), stb0 ((fun v w w' ⟨A, c, hv, ho, hN⟩ he => ⟨A, c, hv, OwnT.ext ho he, hN⟩)), trivial⟩ ⟨?_, ?_, ?_, ?_, ?_, ?_, ?_, ?_, ?_, trivial⟩ ?_
 ·intro wd hxE
  have hz_hxE := hxE.size
  have hneA := OwnT.ne hot hb_g (by decide)
  show OpG _ _ _ _ _ _
  exact og_plain rfl (ox_val (ov_move rfl))
 ·intro wd hxE
  have hz_hxE := hxE.size
  have hneA := OwnT.ne hot hb_g (by decide)
  show OpG _ _ _ _ _ _
  exact og_plain rfl (ox_val (ov_move rfl))
 ·intro wd hxE
  have hz_hxE := hxE.size
  have hneA := OwnT.ne hot hb_g (by decide)
  rintro _ rfl
  show OpG _ _ _ _ _ _
  exact og_plain rfl (ox_val (ov_nilCheck rfl))
 ·intro wd hxE
  have hz_hxE := hxE.size
  have hneA := OwnT.ne hot hb_g (by decide)
  rintro _ rfl
  show OpG _ _ _ _ _ _
  exact og_plain rfl (ox_val (ov_field0 (off := 1) fo120_1 rfl))
 ·intro wd hxE
  have hz_hxE := hxE.size
  have hneA := OwnT.ne hot hb_g (by decide)
  replace hb_g := hb_g.gr hxE hneA
  rintro _ rfl
  show OpG _ _ _ _ _ _
  exact og_plain rfl (ox_val (ov_loadAt oc32 rfl hb_g rfl))
 ·intro wd hxE
  have hz_hxE := hxE.size
  have hneA := OwnT.ne hot hb_g (by decide)
  show OpG _ _ _ _ _ _
  exact og_plain rfl (ox_val (ov_move rfl))
 ·intro wd hxE
  have hz_hxE := hxE.size
  have hneA := OwnT.ne hot hb_g (by decide)
  show OpG _ _ _ _ _ _
  exact og_plain rfl (ox_val (ov_move rfl))
 ·intro wd hxE
  have hz_hxE := hxE.size
  have hneA := OwnT.ne hot hb_g (by decide)
  replace hr2 := hr2.gr hxE (fun x e => hDq x e)
  rintro _ rfl
  rintro _ rfl
  show OpG _ _ _ _ _ _
  have hcap21 := RdB.cap hr2
  refine og_plain rfl (OpRun.mono (or_bslice bt32 rfl hr2 (bounds_h rfl (by omega) (by omega)) (by omega) (by omega) (by omega) (by omega)) ?_)
  rintro v _ ⟨rfl, A21, c21, rfl, hr21, hl21⟩
  have hs21 : (q.drop 0).take ((Int.toNat ((min q.length (m - l.length) : Nat) : Int)) - 0) = (q.take (min q.length (m - l.length))) := (by rw [List.drop_zero, Nat.sub_zero, Int.toNat_natCast])
  rw [hs21] at hr21 hl21; rw [hs21]; clear hs21
  exact ⟨⟨A21, c21, rfl, (Rd.top hr21).mono (Nat.zero_le _) (Nat.le_refl _)⟩, ext_refl _⟩
 ·intro wd hxE
  replace hot := OwnT.ext hot hxE
  have hz_hxE := hxE.size
  rintro _ rfl
  rintro _ ⟨A21, c21, rfl, hr21⟩
  show OpG _ _ _ _ _ _
  refine og_plain rfl (OpRun.mono (or_tappend bt32 rfl hot rfl hr21 (by simp; omega) (by omega)) ?_)
  rintro v w3 ⟨A22, c22, rfl, hot22, hg22, hN22, _⟩
  exact ⟨⟨A22, c22, rfl, hot22, hN22.mono (by omega)⟩, hg22⟩
 ·intro wf4 hf4
  have hz_hf4 := hf4.size
  have hneA := OwnT.ne hot hb_g (by decide)
  replace hb_g := hb_g.gr hf4 hneA
  replace hC := hC.tr (Ch.of_row hf4) (fun x e => .inl e)
  rintro _ rfl
  rintro _ rfl
  rintro _ rfl
  rintro _ rfl
  rintro _ rfl
  rintro _ rfl
  rintro _ rfl
  intro v21
  rintro _ ⟨A22, c22, rfl, hot22, hN22⟩
  refine wa_tail (by kernel_rfl) ?_
  show WL _ _ _ [_, _, _] _ _ _
  refine vn rfl rfl ?_
  refine wl_val (ov_field0 (off := 1) fo120_1 rfl) rfl rfl rfl ?_
  refine wl_step0 (or_storeAt (cs' := [(.int .i64 (↑m : Int)), (.slice A22 (d ++ (q.take (min q.length (m - l.length)))).length c22), (.int .i64 (↑k : Int)), (.int .u64 (↑p : Int)), (.int .u64 (↑t : Int))]) sz32 rfl rfl rfl hb_g rfl rfl) rfl rfl ?_
  rintro _ w3 ⟨hN3, hg3⟩
  have hz_hg3 := hg3.size
  replace hC := hC.gr2 hg3 (fun x e => by cases e; first | exact .inl rfl | (right; right; omega))
  replace hot22 := OwnT.gr hot22 hg3 (by first | exact .inl rfl | (right; intro e; first | (have := hq_hot22 _ e; omega) | exact OwnT.ne hot22 hb_g (by decide) e))
  replace hb_g := hN3
  refine q_nil (k_then (wc_seq (wc_regionL ?_)))
  refine vm rfl rfl ?_
  refine vn rfl rfl ?_
  refine wl_val (ov_field0 (off := 3) fo120_3 rfl) rfl rfl rfl ?_
  refine wl_val (ov_loadAt oc36 rfl hb_g rfl) rfl rfl rfl ?_
  refine vm rfl rfl ?_
  refine wl_val (ov_conv Tryz.underlying3 Tryz.underlying36 rfl (wu64 (by omega) (by omega))) rfl rfl rfl ?_
  refine wl_val (ov_add rfl rfl (wu64 (by omega) (by omega))) rfl rfl rfl ?_
  refine vn rfl rfl ?_
  refine wl_val (ov_field0 (off := 3) fo120_3 rfl) rfl rfl rfl ?_
  refine wl_step0 (or_storeAt (cs' := [(.int .i64 (↑m : Int)), (.slice A22 (d ++ (q.take (min q.length (m - l.length)))).length c22), (.int .i64 (↑k : Int)), (.int .u64 ((↑p : Int) + ((min q.length (m - l.length) : Nat) : Int))), (.int .u64 (↑t : Int))]) sz36 rfl rfl rfl hb_g rfl rfl) rfl rfl ?_
  rintro _ w4 ⟨hN4, hg4⟩
  have hz_hg4 := hg4.size
  replace hC := hC.gr2 hg4 (fun x e => by cases e; first | exact .inl rfl | (right; right; omega))
  replace hot22 := OwnT.gr hot22 hg4 (by first | exact .inl rfl | (right; intro e; first | (have := hq_hot22 _ e; omega) | exact OwnT.ne hot22 hb_g (by decide) e))
  replace hb_g := hN4
  refine q_nil (k_then (wc_seq (wc_regionL ?_)))
  refine vm rfl rfl ?_
  iterate 2 refine va rfl rfl ?_
  refine q_nil (k_then (q_ret ?_))
  refine e_ret2 rfl rfl rfl ?_
  exact ⟨rfl, ⟨_, ⟨_, _, _, k, rfl, hb_g, hot22, by simp; omega, drop_snoc hdk (by omega), by omega, by simp; omega, hm1, hm2⟩, hN22⟩, hC⟩
theorem bputall_ok (w : World) (lo g : Nat) (D : Option Nat) (m : Nat) (l : List UInt8) (p t : Nat) (hbuf : Buf w lo g D m l p t) (lo2 hi2 : Nat) (B : Option Addr) (c2 : Nat) (q : List UInt8) (hr2 : RdB w lo2 hi2 B c2 q) (hgq : g < lo2 ∨ hi2 ≤ g) (hDq : ∀ x, D = some x → x < lo2 ∨ hi2 ≤ x) (hp : p ≤ 4611686018427387904) (hlo : lo ≤ w.heap.size) :
  Fn Tryz.prog 44 #[(.pointer (some ⟨g, 0, none⟩)), (.slice B q.length c2)] w (fun v w' => v = .int .i64 ((ball m l q).2.2 : Int) ∧ (∃ D', Buf w' lo g D' m (ball m l q).1 (p + (ball m l q).2.1) t ∧ Nx w D D') ∧ Ch g D w w')  := by
 obtain ⟨A, c, d, k, rfl, hb_g, hot, hkl, hdk, hkm, hlm, hm1, hm2⟩ := hbuf
 have hgl := hb_g.lt
 have hcd := hot.1
 have hcm := hot.2.1
 simp only [maxLen] at hcm
 have hC := Ch.refl g (blk A) w
 have hDlt : ∀ x, blk A = some x → lo ≤ x ∧ x < w.heap.size := fun x e => hot.lt e
 have hE := ext_refl w
 refine fn_enter (args := [(.pointer (some ⟨g, 0, none⟩)), (.slice B q.length c2)]) Tryz.func44 rfl rfl rfl ?_
 show WC _ _ _ _ [(0, (.pointer (some ⟨g, 0, none⟩))), (1, (.slice B q.length c2))] _
 refine wc_seq (wc_regionL ?_)
 refine va rfl rfl ?_
 refine q_nil (k_then (wc_seq (wc_seq (wc_regionL ?_))))
 refine vm rfl rfl ?_
 refine wl_val (or_call0 cl67 rfl rfl (bzero_ok _ _ _ _ _ _ _ _ _ hm1 hb_g)) rfl rfl rfl ?_
 refine q_nil (k_then ?_)
 refine wc_cond_f rfl ?_
 refine q_skip (k_then (wc_seq (wc_seq (wc_regionL ?_))))
 refine vm rfl rfl ?_
 refine wl_val (ov_len Tryz.underlying32 rfl) rfl rfl rfl ?_
 refine vm rfl rfl ?_
 refine wl_step (or_call0 cl68 rfl rfl (broom_ok _ _ _ _ _ _ _ _ ⟨_, _, _, _, rfl, hb_g, hot, hkl, hdk, hkm, hlm, hm1, hm2⟩)) rfl rfl rfl ?_
 rintro v w1 ⟨rfl, he12⟩
 replace hb_g := hb_g.ext he12
 replace hot := OwnT.ext hot he12
 replace hr2 := hr2.ext he12
 replace hC := hC.ext he12
 have hz_he12 := he12.size
 refine wl_val (ov_gtr rfl rfl) rfl rfl rfl ?_
 refine q_nil (k_then ?_)
 refine wc_cond_d rfl (fun hc2 => ?_) (fun hc2 => ?_)
 ·refine wc_seq (wc_regionL ?_)
  refine va rfl rfl ?_
  refine q_nil (k_then (q_ret (k_thenR ?_)))
  refine e_ret rfl rfl ?_
  rw [bal_full (by omega)]
  exact ⟨rfl, ⟨_, ⟨_, _, _, _, rfl, hb_g, hot, hkl, hdk, hkm, hlm, hm1, hm2⟩, Nx.refl _ _⟩, hC⟩
 ·refine q_skip (k_then (wc_seq (wc_regionL ?_)))
  iterate 2 refine vm rfl rfl ?_
  refine wl_step (or_call0 cl69 rfl rfl (bput_ok _ lo g (blk A) m l p t ⟨_, _, _, _, rfl, hb_g, hot, hkl, hdk, hkm, hlm, hm1, hm2⟩ _ _ _ _ q hr2 hgq hDq hp (by omega))) rfl rfl rfl ?_
  rintro v w202 ⟨rfl, ⟨D17, hbuf17, hN17⟩, hC17⟩
  refine vm rfl rfl ?_
  iterate 2 refine vx rfl rfl rfl ?_
  iterate 2 refine va rfl rfl ?_
  refine q_nil (k_then (wc_seq (wc_regionL ?_)))
  refine vm rfl rfl ?_
  refine va rfl rfl ?_
  refine q_nil (k_then (q_ret ?_))
  refine e_ret rfl rfl ?_
  rw [bal_ok (by omega)]
  rw [Nat.min_eq_left (by omega), List.take_of_length_le (Nat.le_refl _)] at hbuf17
  exact ⟨rfl, ⟨_, hbuf17, hN17.mono (by omega)⟩, hC.tr hC17 (fun x e => .inl e)⟩
end Go.Proofs.YtiighkbehiddkaaGreat