/-
  What is collected of bytes.
-/
import Derived.Test.YtopfjpkjpmdhaaaDd
namespace Go.Proofs.Ytopfjpkjpmdhaaa
open Go.RowKit
set_option linter.unusedVariables false
set_option maxRecDepth 4000
theorem cl68 : callable Try.prog 68 = true := by kernel_rfl
theorem oc60 : oneCellTy Try.prog 60 = true := by kernel_rfl
theorem oc61 : oneCellTy Try.prog 61 = true := by kernel_rfl
theorem sl60 : SliceTy Try.prog 60 72 2 32 (.agg #[(.int .u8 0), (.slice none 0 0)]) := sliceTy_mk Try.underlying60 (by kernel_rfl) rfl (by decide)
theorem sl61 : SliceTy Try.prog 61 23 1 8 (.int .i64 0) := sliceTy_mk Try.underlying61 (by kernel_rfl) rfl (by decide)
theorem sz60 : (Try.prog.info? 60).map (·.size) = some 1 := by kernel_rfl
theorem sz61 : (Try.prog.info? 61).map (·.size) = some 1 := by kernel_rfl

theorem dcollect_ok (w w0 : World) (lo g : Nat) (D : Option Nat) (m : Nat) (cl : Bool) (l : List UInt8) (hdec : Dec w lo g D m cl l) (hl40 : l.length ≤ 1099511627776) (g1 g2 : Nat) (hb_g1 : Blk w g1 60 [.slice none 0 0]) (hb_g2 : Blk w g2 61 [.slice none 0 0]) (hE : Ext w0 w) (h0g : w0.heap.size ≤ g) (h0D : ∀ x, D = some x → w0.heap.size ≤ x) (h1 : g < g1) (h2 : g1 < g2) (hD1 : ∀ x, D = some x → x < g1) :
    Fn Try.prog 59 #[(.pointer (some ⟨g, 0, none⟩)), (.pointer (some ⟨g1, 0, none⟩)), (.pointer (some ⟨g2, 0, none⟩))] w (fun v w' => v = .tuple #[] ∧ ∃ A c B d ys, Blk w' g1 60 [.slice A (List.length ys) c] ∧ Own w' w.heap.size 72 2 A ys.length c (ys.flatMap gotc) ∧ Blk w' g2 61 [.slice B ys.length d] ∧ Own w' w.heap.size 23 1 B ys.length d (ys.map gote) ∧ FL w' w.heap.size ys ∧ ys.map gotv = dall m cl l ∧ Ext w0 w')  := by
  have hDs : ∀ x, D = some x → x < g1 ∧ w0.heap.size ≤ x := fun x e => ⟨hD1 x e, h0D x e⟩
  have hcp := hdec.cap
  have hg1w := hb_g1.lt
  have hg2w := hb_g2.lt
  have hz0 := hE.size
  refine fnD_enter (args := [(.pointer (some ⟨g, 0, none⟩)), (.pointer (some ⟨g1, 0, none⟩)), (.pointer (some ⟨g2, 0, none⟩))]) Try.func59 rfl rfl rfl ?_
  show WC _ _ _ _ [(0, (.pointer (some ⟨g, 0, none⟩))), (1, (.pointer (some ⟨g1, 0, none⟩))), (2, (.pointer (some ⟨g2, 0, none⟩)))] _
  refine wc_seq ?_
  refine wc_regionL ?_
  refine wl_defer rfl rfl ?_
  refine q_nil ?_
  refine k_then ?_
  refine wc_block ?_
  refine wc_loop (σ := Bool × List UInt8 × Option Addr × Nat × Option Addr × Nat × List Got) (fun s => dmeas s.1 s.2.1) (fun s => [(0, .pointer (some ⟨g, 0, none⟩)), (1, .pointer (some ⟨g1, 0, none⟩)), (2, .pointer (some ⟨g2, 0, none⟩))]) (fun s w' => Dec w' lo g D m s.1 s.2.1 ∧ s.2.1.length ≤ 1099511627776 ∧ Blk w' g1 60 [.slice s.2.2.1 s.2.2.2.2.2.2.length s.2.2.2.1] ∧ Own w' w.heap.size 72 2 s.2.2.1 s.2.2.2.2.2.2.length s.2.2.2.1 (s.2.2.2.2.2.2.flatMap gotc) ∧ Blk w' g2 61 [.slice s.2.2.2.2.1 s.2.2.2.2.2.2.length s.2.2.2.2.2.1] ∧ Own w' w.heap.size 23 1 s.2.2.2.2.1 s.2.2.2.2.2.2.length s.2.2.2.2.2.1 (s.2.2.2.2.2.2.map gote) ∧ FL w' w.heap.size s.2.2.2.2.2.2 ∧ s.2.2.2.2.2.2.map gotv ++ dall m s.1 s.2.1 = dall m cl l ∧ Ext w0 w' ∧ w.heap.size ≤ w'.heap.size) ((cl, l, none, 0, none, 0, [])) (⟨hdec, hl40, hb_g1, Own.nil_ _ _ _ _, hb_g2, Own.nil_ _ _ _ _, (fun y hy => by cases hy), rfl, hE, Nat.le_refl _⟩) (⟨rfl, rfl, rfl, trivial⟩) ?_
  rintro ⟨cz, lz, A1, c1, B1, d1, ys⟩ wq ⟨hdec, hlz, hb_g1, hoA, hb_g2, hoB, hFL, hall, hE, hszq⟩
  show WC _ _ _ _ [(0, (.pointer (some ⟨g, 0, none⟩))), (1, (.pointer (some ⟨g1, 0, none⟩))), (2, (.pointer (some ⟨g2, 0, none⟩)))] _
  replace hdec : Dec wq lo g D m cz lz := hdec
  replace hlz : lz.length ≤ 1099511627776 := hlz
  replace hb_g1 : Blk wq g1 60 [.slice A1 ys.length c1] := hb_g1
  replace hoA : Own wq w.heap.size 72 2 A1 ys.length c1 (ys.flatMap gotc) := hoA
  replace hb_g2 : Blk wq g2 61 [.slice B1 ys.length d1] := hb_g2
  replace hoB : Own wq w.heap.size 23 1 B1 ys.length d1 (ys.map gote) := hoB
  replace hFL : FL wq w.heap.size ys := hFL
  replace hall : ys.map gotv ++ dall m cz lz = dall m cl l := hall
  have hzb := hdec.lt.1
  have hq_hoA := fun g e => Own.lt hoA (g := g) e
  have hq_hoB := fun g e => Own.lt hoB (g := g) e
  have hz_Eq := hE.size
  have hyl : ys.length ≤ 1099511627777 := by have h1 := congrArg List.length hall; have h2 := dall_len hcp _ cl l (Nat.le_refl _); simp at h1; have h3 : dmeas cl l ≤ l.length + 1 := (by unfold dmeas; split <;> omega); omega
  refine wc_block ?_
  refine wc_seq ?_
  refine wc_regionL ?_
  refine wl_val (ov_move rfl) rfl rfl rfl ?_
  refine wl_stepP (or_callP0 cl68 rfl rfl (dmust_ok _ lo g D m cz lz hdec (by first | omega | (simp; done)))) rfl rfl rfl ?_ ?_
  · rintro v w1 ⟨hne10, A10, c10, rfl, ho10, hb10, hC10⟩
    have hDa10 : ∀ x, D = some x → (x < g1 ∧ w0.heap.size ≤ x) ∧ x < wq.heap.size := fun x e => ⟨hDs x e, (hdec.lt.2 x e).2⟩
    have hz_hC10 := hC10.size
    replace hb_g1 := hC10.bk hb_g1 (by omega) (fun e2 => by have := hDa10 _ e2; omega)
    replace hoA := hC10.own hoA (fun x e => by first | exact ⟨by have := hq_hoA x e; omega, fun e2 => by have h1 := hq_hoA x e; have h2 := hDa10 x e2; omega⟩)
    replace hb_g2 := hC10.bk hb_g2 (by omega) (fun e2 => by have := hDa10 _ e2; omega)
    replace hoB := hC10.own hoB (fun x e => by first | exact ⟨by have := hq_hoB x e; omega, fun e2 => by have h1 := hq_hoB x e; have h2 := hDa10 x e2; omega⟩)
    replace hFL := FL.ch hFL hC10 (by omega) (fun x e => by have := hDa10 x e; omega)
    replace hE := hC10.e0 hE (by omega) (fun x e => by have := hDa10 x e; omega)
    have hzb10 := hb10.lt.1
    have hcp10 := hb10.cap
    have hq_ho10 := fun g e => Own.lt ho10 (g := g) e
    refine wl_val (ov_move rfl) rfl rfl rfl ?_
    refine wl_val (ov_extract rfl rfl) rfl rfl rfl ?_
    refine wl_val (ov_extract rfl rfl) rfl rfl rfl ?_
    refine wl_step (or_alloc (cs := [(.int .u8 0), (.slice none 0 0)]) ze72 rfl) rfl rfl rfl ?_
    rintro v w2 ⟨g6, rfl, hb_g6, he6, hl6, hu6⟩
    replace hb_g1 := hb_g1.ext he6
    replace hoA := Own.ext hoA he6
    replace hb_g2 := hb_g2.ext he6
    replace hoB := Own.ext hoB he6
    replace hFL := FL.ext hFL he6
    replace hE := hE.tr he6
    replace hb10 := hb10.ext he6
    replace ho10 := Own.ext ho10 he6
    have hz_he6 := he6.size
    refine wl_step0 (or_storeBlk (vs := [(.int .u8 (↑(dnext m cz lz).2.2.1.1.toNat : Int)), (.slice A10 (dnext m cz lz).2.2.1.2.length c10)]) sz72 rfl rfl (by simp [Value.oneCell']) hb_g6 rfl) rfl rfl ?_
    rintro _ w3 ⟨hN3, hg3⟩
    have hz_hg3 := hg3.size
    replace hb_g1 := hb_g1.gr hg3 (by intro e; cases e; omega)
    replace hoA := Own.gr hoA hg3 (by first | exact .inl rfl | (right; intro e; first | (have := hq_hoA _ e; omega) | (have := Own.lt hoA e; omega) | exact own_blk_ne hoA hb_g6 (by decide) e))
    replace hb_g2 := hb_g2.gr hg3 (by intro e; cases e; omega)
    replace hoB := Own.gr hoB hg3 (by first | exact .inl rfl | (right; intro e; first | (have := hq_hoB _ e; omega) | (have := Own.lt hoB e; omega) | exact own_blk_ne hoB hb_g6 (by decide) e))
    replace hFL := FL.gr hFL hg3 hb_g6 (by decide)
    replace hE := hE.gr hg3 (fun _ e => by cases e; omega)
    replace hb10 := hb10.gr hg3 (fun x e => by cases e; omega) (fun x e e2 => by cases e; have := hDs _ e2; omega)
    replace ho10 := Own.gr ho10 hg3 (by first | exact .inl rfl | (right; intro e; first | (have := hq_ho10 _ e; omega) | (have := Own.lt ho10 e; omega) | exact own_blk_ne ho10 hb_g6 (by decide) e))
    replace hb_g6 := hN3
    refine wl_val (ov_assign rfl) rfl rfl rfl ?_
    refine q_nil ?_
    refine k_then ?_
    refine wc_drawA mixed ?_
    intro w4 hx2
    replace hb_g1 := hb_g1.ext hx2
    replace hoA := Own.ext hoA hx2
    replace hb_g2 := hb_g2.ext hx2
    replace hoB := Own.ext hoB hx2
    replace hFL := FL.ext hFL hx2
    replace hE := hE.tr hx2
    replace hb10 := hb10.ext hx2
    replace ho10 := Own.ext ho10 hx2
    replace hb_g6 := hb_g6.ext hx2
    have hz_hx2 := hx2.size
    refine wa_main (RT g1) rt1 rt2 rt3 0 16 [(13, eqv (.pointer (some ⟨g1, 0, none⟩))), (14, eqv (.pointer (some ⟨g2, 0, none⟩))), (15, eqv (.pointer (some ⟨g1, 0, none⟩))), (16, eqv (.pointer (some ⟨g1, 0, none⟩))), (17, eqv (.slice A1 ys.length c1)), (18, eqv (.agg #[(.int .u8 (↑(dnext m cz lz).2.2.1.1.toNat : Int)), (.slice A10 (dnext m cz lz).2.2.1.2.length c10)])), (19, (fun v w => ∃ g19, v = .slice (some ⟨g19, 0, none⟩) 1 1 ∧ Blk w g19 72 [.int .u8 ((dnext m cz lz).2.2.1.1.toNat : Int), .slice A10 (dnext m cz lz).2.2.1.2.length c10])), (20, (fun v w' => ∃ A20 c20, v = .slice A20 (ys.length + 1) c20 ∧ Own w' w.heap.size 72 2 A20 (ys.length + 1) c20 (ys.flatMap gotc ++ [.int .u8 ((dnext m cz lz).2.2.1.1.toNat : Int), .slice A10 (dnext m cz lz).2.2.1.2.length c10]))), (21, eqv (.pointer (some ⟨g2, 0, none⟩))), (22, eqv (.pointer (some ⟨g2, 0, none⟩))), (23, eqv (.slice B1 ys.length d1)), (24, eqv (.int .i64 (↑(dnext m cz lz).2.2.2 : Int))), (25, (fun v w => ∃ g25, v = .slice (some ⟨g25, 0, none⟩) 1 1 ∧ Blk w g25 23 [.int .i64 ((dnext m cz lz).2.2.2 : Int)])), (26, (fun v w' => ∃ A26 c26, v = .slice A26 (ys.length + 1) c26 ∧ Own w' w.heap.size 23 1 A26 (ys.length + 1) c26 (ys.map gote ++ [.int .i64 ((dnext m cz lz).2.2.2 : Int)]))), (27, eqv (.pointer (some ⟨g1, 0, none⟩))), (44, (fun _ w' => ∃ A20 c20, Blk w' g1 60 [.slice A20 (ys.length + 1) c20] ∧ Own w' w.heap.size 72 2 A20 (ys.length + 1) c20 (ys.flatMap gotc ++ [.int .u8 ((dnext m cz lz).2.2.1.1.toNat : Int), .slice A10 (dnext m cz lz).2.2.1.2.length c10])))] [[], [], [], [2], [3], [], [5], [4, 6], [], [8], [9], [], [11], [10, 12], [0], [7, 14]] [[23, 60, 72], [23, 60, 72], [23, 60, 72], [23, 60, 72], [23, 60, 72], [23, 60, 72], [], [23], [23, 60, 72], [23, 60, 72], [23, 60, 72], [23, 60, 72], [72], [60], [23, 60, 72], [23]] [[23, 72], [23, 60, 72], [], [], [], [], [], [], [72], [72], [72], [72], [72], [72], [23, 72], [23, 72]] [none, none, none, none, none, none, none, some 72, none, none, none, none, none, some 23, none, some 60] [true, true, true, true, true, true, false, false, true, true, true, true, false, true, true, true] [23, 60, 72] _ [] [] (fun _ _ h => h) trivial (by kernel_rfl) rfl ⟨stbA (fun _ => stb_eqv _) _, stbA (fun _ => stb_eqv _) _, stbA (fun _ => stb_eqv _) _, stbA (fun _ => stb_eqv _) _, stbA (fun _ => stb_eqv _) _, stbA (fun _ => stb_eqv _) _, stb0 ((fun v w w' ⟨g, hv, hb⟩ he => ⟨g, hv, hb.ext he⟩)), ⟨fun v w w' ⟨A, c, hv, ho⟩ he => ⟨A, c, hv, Own.ext ho he⟩, fun e he => by simp at he; subst he; exact fun v w w' ⟨A, c, hv, ho⟩ k => ⟨A, c, hv, RT.own k ho (by decide)⟩⟩, stbA (fun _ => stb_eqv _) _, stbA (fun _ => stb_eqv _) _, stbA (fun _ => stb_eqv _) _, stbA (fun _ => stb_eqv _) _, ⟨fun v w w' ⟨g, hv, hb⟩ he => ⟨g, hv, hb.ext he⟩, fun e he => by simp at he; subst he; exact fun v w w' ⟨g, hv, hb⟩ k => ⟨g, hv, RT.bk k hb (by decide)⟩⟩, ⟨fun v w w' ⟨A, c, hv, ho⟩ he => ⟨A, c, hv, Own.ext ho he⟩, fun e he => by simp at he; subst he; exact fun v w w' ⟨A, c, hv, ho⟩ k => ⟨A, c, hv, RT.own k ho (by decide)⟩⟩, stbA (fun _ => stb_eqv _) _, ⟨fun v w w' ⟨A, c, hb, ho⟩ he => ⟨A, c, hb.ext he, Own.ext ho he⟩, fun e he => by simp at he; subst he; exact fun v w w' ⟨A, c, hb, ho⟩ k => ⟨A, c, RT.bk k hb (by decide), RT.own k ho (by decide)⟩⟩, trivial⟩ ⟨?_, ?_, ?_, ?_, ?_, ?_, ?_, ?_, ?_, ?_, ?_, ?_, ?_, ?_, ?_, ?_, trivial⟩ ?_
    · intro wd hxE
      have hz_hxE := hxE.size
      replace hb_g1 := hxE.bk hb_g1 (by decide)
      replace hb_g2 := hxE.bk hb_g2 (by decide)
      replace hFL := FL.rt hFL hxE (by decide)
      replace hE := hxE.e0 hE (by omega)
      replace hb10 := hb10.rt hxE (by decide) (by decide)
      replace ho10 := hxE.own ho10 (by decide)
      show OpG _ _ _ _ _ _
      exact og_plain rfl (ox_val (ov_move rfl))
    · intro wd hxE
      have hz_hxE := hxE.size
      replace hb_g2 := hxE.bk hb_g2 (by decide)
      replace hFL := FL.rt hFL hxE (by decide)
      replace hE := hxE.e0 hE (by omega)
      replace hb10 := hb10.rt hxE (by decide) (by decide)
      replace ho10 := hxE.own ho10 (by decide)
      show OpG _ _ _ _ _ _
      exact og_plain rfl (ox_val (ov_move rfl))
    · intro wd hxE
      replace hxE : Ext _ _ := rt_nil hxE
      replace hb_g1 := hb_g1.ext hxE
      replace hoA := Own.ext hoA hxE
      replace hb_g2 := hb_g2.ext hxE
      replace hoB := Own.ext hoB hxE
      replace hFL := FL.ext hFL hxE
      replace hE := hE.tr hxE
      replace hb10 := hb10.ext hxE
      replace ho10 := Own.ext ho10 hxE
      replace hb_g6 := hb_g6.ext hxE
      have hz_hxE := hxE.size
      show OpG _ _ _ _ _ _
      exact og_plain rfl (ox_val (ov_move rfl))
    · intro wd hxE
      replace hxE : Ext _ _ := rt_nil hxE
      replace hb_g1 := hb_g1.ext hxE
      replace hoA := Own.ext hoA hxE
      replace hb_g2 := hb_g2.ext hxE
      replace hoB := Own.ext hoB hxE
      replace hFL := FL.ext hFL hxE
      replace hE := hE.tr hxE
      replace hb10 := hb10.ext hxE
      replace ho10 := Own.ext ho10 hxE
      replace hb_g6 := hb_g6.ext hxE
      have hz_hxE := hxE.size
      rintro _ rfl
      show OpG _ _ _ _ _ _
      exact og_plain rfl (ox_val (ov_nilCheck rfl))
    · intro wd hxE
      replace hxE : Ext _ _ := rt_nil hxE
      replace hb_g1 := hb_g1.ext hxE
      replace hoA := Own.ext hoA hxE
      replace hb_g2 := hb_g2.ext hxE
      replace hoB := Own.ext hoB hxE
      replace hFL := FL.ext hFL hxE
      replace hE := hE.tr hxE
      replace hb10 := hb10.ext hxE
      replace ho10 := Own.ext ho10 hxE
      replace hb_g6 := hb_g6.ext hxE
      have hz_hxE := hxE.size
      rintro _ rfl
      show OpG _ _ _ _ _ _
      exact og_plain rfl (ox_val (ov_loadAt oc60 rfl hb_g1 rfl))
    · intro wd hxE
      replace hxE : Ext _ _ := rt_nil hxE
      replace hb_g1 := hb_g1.ext hxE
      replace hoA := Own.ext hoA hxE
      replace hb_g2 := hb_g2.ext hxE
      replace hoB := Own.ext hoB hxE
      replace hFL := FL.ext hFL hxE
      replace hE := hE.tr hxE
      replace hb10 := hb10.ext hxE
      replace ho10 := Own.ext ho10 hxE
      replace hb_g6 := hb_g6.ext hxE
      have hz_hxE := hxE.size
      show OpG _ _ _ _ _ _
      exact og_plain rfl (ox_val (ov_loadBlk (cs := [(.int .u8 (↑(dnext m cz lz).2.2.1.1.toNat : Int)), (.slice A10 (dnext m cz lz).2.2.1.2.length c10)]) ag72_2 rfl hb_g6))
    · intro wd hxE
      replace hxE : Ext _ _ := rt_nil hxE
      replace hb_g1 := hb_g1.ext hxE
      replace hoA := Own.ext hoA hxE
      replace hb_g2 := hb_g2.ext hxE
      replace hoB := Own.ext hoB hxE
      replace hFL := FL.ext hFL hxE
      replace hE := hE.tr hxE
      replace hb10 := hb10.ext hxE
      replace ho10 := Own.ext ho10 hxE
      replace hb_g6 := hb_g6.ext hxE
      have hz_hxE := hxE.size
      rintro _ rfl
      show OpG _ _ _ _ _ _
      refine og_plain rfl (OpRun.mono (or_buildSliceF (cs := [.int .u8 ((dnext m cz lz).2.2.1.1.toNat : Int), .slice A10 (dnext m cz lz).2.2.1.2.length c10]) sl60 rfl (by kernel_rfl) (by decide) (by decide)) ?_)
      rintro v w5 ⟨g19, rfl, hb_g19, he19, hl19, hu19⟩
      replace hb_g1 := hb_g1.ext he19
      replace hoA := Own.ext hoA he19
      replace hb_g2 := hb_g2.ext he19
      replace hoB := Own.ext hoB he19
      replace hFL := FL.ext hFL he19
      replace hE := hE.tr he19
      replace hb10 := hb10.ext he19
      replace ho10 := Own.ext ho10 he19
      replace hb_g6 := hb_g6.ext he19
      have hz_he19 := he19.size
      exact ⟨⟨g19, rfl, hb_g19⟩, he19⟩
    · intro wd hxE
      replace hxE : Ext _ _ := rt_nil hxE
      replace hb_g1 := hb_g1.ext hxE
      replace hoA := Own.ext hoA hxE
      replace hb_g2 := hb_g2.ext hxE
      replace hoB := Own.ext hoB hxE
      replace hFL := FL.ext hFL hxE
      replace hE := hE.tr hxE
      replace hb10 := hb10.ext hxE
      replace ho10 := Own.ext ho10 hxE
      replace hb_g6 := hb_g6.ext hxE
      have hz_hxE := hxE.size
      rintro _ rfl
      rintro _ ⟨g19, rfl, hb_g19⟩
      show OpG _ _ _ _ _ _
      refine og_plain rfl (OpRun.mono (or_append sl60 rfl hoA rfl (Blk.rdF hb_g19 rfl (by decide)) (by simp [Value.oneCell']) (by omega) (by simp only [maxLen]; omega) (by omega)) ?_)
      rintro v w5 ⟨A20, c20, rfl, ho20, hg20, ha20⟩
      exact ⟨⟨A20, c20, rfl, ho20⟩, rt_row hg20 hoA (by omega)⟩
    · intro wd hxE
      have hz_hxE := hxE.size
      replace hb_g1 := hxE.bk hb_g1 (by decide)
      replace hb_g2 := hxE.bk hb_g2 (by decide)
      replace hoB := hxE.own hoB (by decide)
      replace hFL := FL.rt hFL hxE (by decide)
      replace hE := hxE.e0 hE (by omega)
      replace hb10 := hb10.rt hxE (by decide) (by decide)
      replace ho10 := hxE.own ho10 (by decide)
      show OpG _ _ _ _ _ _
      exact og_plain rfl (ox_val (ov_move rfl))
    · intro wd hxE
      have hz_hxE := hxE.size
      replace hb_g1 := hxE.bk hb_g1 (by decide)
      replace hb_g2 := hxE.bk hb_g2 (by decide)
      replace hoB := hxE.own hoB (by decide)
      replace hFL := FL.rt hFL hxE (by decide)
      replace hE := hxE.e0 hE (by omega)
      replace hb10 := hb10.rt hxE (by decide) (by decide)
      replace ho10 := hxE.own ho10 (by decide)
      rintro _ rfl
      show OpG _ _ _ _ _ _
      exact og_plain rfl (ox_val (ov_nilCheck rfl))
    · intro wd hxE
      have hz_hxE := hxE.size
      replace hb_g1 := hxE.bk hb_g1 (by decide)
      replace hb_g2 := hxE.bk hb_g2 (by decide)
      replace hoB := hxE.own hoB (by decide)
      replace hFL := FL.rt hFL hxE (by decide)
      replace hE := hxE.e0 hE (by omega)
      replace hb10 := hb10.rt hxE (by decide) (by decide)
      replace ho10 := hxE.own ho10 (by decide)
      rintro _ rfl
      show OpG _ _ _ _ _ _
      exact og_plain rfl (ox_val (ov_loadAt oc61 rfl hb_g2 rfl))
    · intro wd hxE
      have hz_hxE := hxE.size
      replace hb_g1 := hxE.bk hb_g1 (by decide)
      replace hb_g2 := hxE.bk hb_g2 (by decide)
      replace hoB := hxE.own hoB (by decide)
      replace hFL := FL.rt hFL hxE (by decide)
      replace hE := hxE.e0 hE (by omega)
      replace hb10 := hb10.rt hxE (by decide) (by decide)
      replace ho10 := hxE.own ho10 (by decide)
      show OpG _ _ _ _ _ _
      exact og_plain rfl (ox_val (ov_move rfl))
    · intro wd hxE
      have hz_hxE := hxE.size
      replace hb_g1 := hxE.bk hb_g1 (by decide)
      replace hb_g2 := hxE.bk hb_g2 (by decide)
      replace hoB := hxE.own hoB (by decide)
      replace hFL := FL.rt hFL hxE (by decide)
      replace hE := hxE.e0 hE (by omega)
      replace hb10 := hb10.rt hxE (by decide) (by decide)
      replace ho10 := hxE.own ho10 (by decide)
      rintro _ rfl
      show OpG _ _ _ _ _ _
      refine og_plain rfl (OpRun.mono (or_buildSlice1 (os := [.tmp 24]) sl61 rfl rfl rfl (by simp [Value.oneCell']) (by decide)) ?_)
      rintro v w5 ⟨g25, rfl, hb_g25, he25, hl25, hu25, _⟩
      replace hb_g1 := hb_g1.ext he25
      replace hb_g2 := hb_g2.ext he25
      replace hoB := Own.ext hoB he25
      replace hFL := FL.ext hFL he25
      replace hE := hE.tr he25
      replace hb10 := hb10.ext he25
      replace ho10 := Own.ext ho10 he25
      have hz_he25 := he25.size
      exact ⟨⟨g25, rfl, hb_g25⟩, he25⟩
    · intro wd hxE
      have hz_hxE := hxE.size
      replace hb_g1 := hxE.bk hb_g1 (by decide)
      replace hb_g2 := hxE.bk hb_g2 (by decide)
      replace hoB := hxE.own hoB (by decide)
      replace hFL := FL.rt hFL hxE (by decide)
      replace hE := hxE.e0 hE (by omega)
      replace hb10 := hb10.rt hxE (by decide) (by decide)
      replace ho10 := hxE.own ho10 (by decide)
      rintro _ rfl
      rintro _ ⟨g25, rfl, hb_g25⟩
      show OpG _ _ _ _ _ _
      refine og_plain rfl (OpRun.mono (or_append sl61 rfl hoB rfl (Blk.rd1 hb_g25) (by simp [Value.oneCell']) (by omega) (by simp only [maxLen]; omega) (by omega)) ?_)
      rintro v w5 ⟨A26, c26, rfl, ho26, hg26, ha26⟩
      exact ⟨⟨A26, c26, rfl, ho26⟩, rt_row hg26 hoB (by omega)⟩
    · intro wd hxE
      have hz_hxE := hxE.size
      replace hb_g1 := hxE.bk hb_g1 (by decide)
      replace hb_g2 := hxE.bk hb_g2 (by decide)
      replace hFL := FL.rt hFL hxE (by decide)
      replace hE := hxE.e0 hE (by omega)
      replace hb10 := hb10.rt hxE (by decide) (by decide)
      replace ho10 := hxE.own ho10 (by decide)
      rintro _ rfl
      show OpG _ _ _ _ _ _
      exact og_plain rfl (ox_val (ov_nilCheck rfl))
    · intro wd hxE
      have hz_hxE := hxE.size
      replace hb_g1 := hxE.bk hb_g1 (by decide)
      replace hb_g2 := hxE.bk hb_g2 (by decide)
      replace hFL := FL.rt hFL hxE (by decide)
      replace hE := hxE.e0 hE (by omega)
      replace hb10 := hb10.rt hxE (by decide) (by decide)
      replace ho10 := hxE.own ho10 (by decide)
      rintro _ ⟨A20, c20, rfl, ho20⟩
      rintro _ rfl
      show OpG _ _ _ _ _ _
      have hb0 := hb_g1
      refine og_plain rfl (OpRun.mono (or_storeAt (cs' := [(.slice A20 (ys.length + 1) c20)]) sz60 rfl rfl rfl hb_g1 rfl rfl) ?_)
      rintro _ w5 ⟨hN5, hg5⟩
      have hz_hg5 := hg5.size
      replace hb_g2 := hb_g2.gr hg5 (by intro e; cases e; omega)
      replace hFL := FL.gr hFL hg5 hb_g1 (by decide)
      replace hE := hE.gr hg5 (fun _ e => by cases e; omega)
      replace hb10 := hb10.gr hg5 (fun x e => by cases e; omega) (fun x e e2 => by cases e; have := hDs _ e2; omega)
      replace ho10 := Own.gr ho10 hg5 (by first | exact .inl rfl | (right; intro e; first | (have := hq_ho10 _ e; omega) | (have := Own.lt ho10 e; omega) | exact own_blk_ne ho10 hb_g1 (by decide) e))
      replace ho20 := Own.gr ho20 hg5 (by first | exact .inl rfl | (right; intro e; first | (have := hq_ho20 _ e; omega) | (have := Own.lt ho20 e; omega) | exact own_blk_ne ho20 hb_g1 (by decide) e))
      replace hb_g1 := hN5
      exact ⟨⟨A20, c20, hb_g1, ho20⟩, rt_store hg5 hb0 (Nat.le_refl _)⟩
    · intro wf2 hf2
      have hz_hf2 := hf2.size
      replace hb_g2 := hf2.bk hb_g2 (by decide)
      replace hFL := FL.rt hFL hf2 (by decide)
      replace hE := hf2.e0 hE (by omega)
      replace hb10 := hb10.rt hf2 (by decide) (by decide)
      replace ho10 := hf2.own ho10 (by decide)
      rintro _ rfl
      rintro _ rfl
      rintro _ rfl
      rintro _ rfl
      rintro _ rfl
      rintro _ rfl
      intro v19
      intro v20
      rintro _ rfl
      rintro _ rfl
      rintro _ rfl
      rintro _ rfl
      intro v25
      rintro _ ⟨A26, c26, rfl, ho26⟩
      rintro _ rfl
      rintro _ ⟨A20, c20, hb_g1, ho20⟩
      have hq_ho26 := fun g e => Own.lt ho26 (g := g) e
      have hq_ho20 := fun g e => Own.lt ho20 (g := g) e
      refine wa_tail (by kernel_rfl) ?_
      show WL _ _ _ [_, _] _ _ _
      refine wl_val (ov_nilCheck rfl) rfl rfl rfl ?_
      refine wl_step0 (or_storeAt (cs' := [(.slice A26 (ys.length + 1) c26)]) sz61 rfl rfl rfl hb_g2 rfl rfl) rfl rfl ?_
      rintro _ w5 ⟨hN5, hg5⟩
      have hz_hg5 := hg5.size
      replace hFL := FL.gr hFL hg5 hb_g2 (by decide)
      replace hE := hE.gr hg5 (fun _ e => by cases e; omega)
      replace hb10 := hb10.gr hg5 (fun x e => by cases e; omega) (fun x e e2 => by cases e; have := hDs _ e2; omega)
      replace ho10 := Own.gr ho10 hg5 (by first | exact .inl rfl | (right; intro e; first | (have := hq_ho10 _ e; omega) | (have := Own.lt ho10 e; omega) | exact own_blk_ne ho10 hb_g2 (by decide) e))
      replace ho26 := Own.gr ho26 hg5 (by first | exact .inl rfl | (right; intro e; first | (have := hq_ho26 _ e; omega) | (have := Own.lt ho26 e; omega) | exact own_blk_ne ho26 hb_g2 (by decide) e))
      replace hb_g1 := hb_g1.gr hg5 (by intro e; cases e; omega)
      replace ho20 := Own.gr ho20 hg5 (by first | exact .inl rfl | (right; intro e; first | (have := hq_ho20 _ e; omega) | (have := Own.lt ho20 e; omega) | exact own_blk_ne ho20 hb_g2 (by decide) e))
      replace hb_g2 := hN5
      refine q_nil ?_
      refine k_block ?_
      have hln : (ys ++ [((((dnext m cz lz).2.2.1.1, A10, c10, (dnext m cz lz).2.2.1.2), (dnext m cz lz).2.2.2) : Got)]).length = ys.length + 1 := by simp
      have hfm : (ys ++ [((((dnext m cz lz).2.2.1.1, A10, c10, (dnext m cz lz).2.2.1.2), (dnext m cz lz).2.2.2) : Got)]).flatMap gotc = ys.flatMap gotc ++ [.int .u8 ((dnext m cz lz).2.2.1.1.toNat : Int), .slice A10 (dnext m cz lz).2.2.1.2.length c10] := by simp [gotc]
      have hmp : (ys ++ [((((dnext m cz lz).2.2.1.1, A10, c10, (dnext m cz lz).2.2.1.2), (dnext m cz lz).2.2.2) : Got)]).map gote = ys.map gote ++ [.int .i64 ((dnext m cz lz).2.2.2 : Int)] := by simp [gote]
      have hds := dnext_short m cz lz
      refine k_loop (((dnext m cz lz).1, (dnext m cz lz).2.1, A20, c20, A26, c26, ys ++ [(((dnext m cz lz).2.2.1.1, A10, c10, (dnext m cz lz).2.2.1.2), (dnext m cz lz).2.2.2)])) (dnext_less hcp hne10) (⟨rfl, rfl, rfl, trivial⟩) (⟨hb10, by show (dnext m cz lz).2.1.length ≤ _; omega, by show Blk _ g1 _ [.slice A20 (ys ++ [_]).length c20]; rw [hln]; exact hb_g1, by show Own _ _ _ 2 A20 (ys ++ [_]).length c20 ((ys ++ [_]).flatMap gotc); rw [hln, hfm]; exact ho20, by show Blk _ g2 _ [.slice A26 (ys ++ [_]).length c26]; rw [hln]; exact hb_g2, by show Own _ _ _ 1 A26 (ys ++ [_]).length c26 ((ys ++ [_]).map gote); rw [hln, hmp]; exact ho26, FL.snoc hFL (Own.mono ho10 (by omega)), by show (ys ++ [_]).map gotv ++ dall m (dnext m cz lz).1 (dnext m cz lz).2.1 = _; rw [dall_cons hcp hne10] at hall; rw [List.map_append, List.append_assoc]; exact hall, hE, by omega⟩)
  · rintro ch w1 ⟨rfl, hbad, hbp, hCp⟩
    have hDap : ∀ x, D = some x → (x < g1 ∧ w0.heap.size ≤ x) ∧ x < wq.heap.size := fun x e => ⟨hDs x e, (hdec.lt.2 x e).2⟩
    have hz_hCp := hCp.size
    replace hb_g1 := hCp.bk hb_g1 (by omega) (fun e2 => by have := hDap _ e2; omega)
    replace hoA := hCp.own hoA (fun x e => by first | exact ⟨by have := hq_hoA x e; omega, fun e2 => by have h1 := hq_hoA x e; have h2 := hDap x e2; omega⟩)
    replace hb_g2 := hCp.bk hb_g2 (by omega) (fun e2 => by have := hDap _ e2; omega)
    replace hoB := hCp.own hoB (fun x e => by first | exact ⟨by have := hq_hoB x e; omega, fun e2 => by have h1 := hq_hoB x e; have h2 := hDap x e2; omega⟩)
    replace hFL := FL.ch hFL hCp (by omega) (fun x e => by have := hDap x e; omega)
    replace hE := hCp.e0 hE (by omega) (fun x e => by have := hDap x e; omega)
    have hzbp := hbp.lt.1
    have hcpp := hbp.cap
    refine k_thenP ?_
    refine k_blockP ?_
    refine k_thenP ?_
    refine k_blockP ?_
    refine e_panD rfl (by simp [go_sem]) (colrec _) ?_
    exact ⟨rfl, A1, c1, B1, d1, ys, hb_g1, hoA, hb_g2, hoB, hFL, by rw [dall_end hbad, List.append_nil] at hall; exact hall, hE⟩

end Go.Proofs.Ytopfjpkjpmdhaaa
