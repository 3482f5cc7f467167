/-
  The walk of DecodePlays.
-/
import Derived.Test.YtopfjpkjpmdhaaaDk
namespace Go.Proofs.Ytopfjpkjpmdhaaa
open Go.RowKit
set_option linter.unusedVariables false
set_option maxRecDepth 4000
theorem ag83_2 : aggTy Try.prog 83 2 = true := by kernel_rfl
theorem cl30 : callable Try.prog 30 = true := by kernel_rfl
theorem cl31 : callable Try.prog 31 = true := by kernel_rfl
theorem cl43 : callable Try.prog 43 = true := by kernel_rfl
theorem cl44 : callable Try.prog 44 = true := by kernel_rfl
theorem cl47 : callable Try.prog 47 = true := by kernel_rfl
theorem cl48 : callable Try.prog 48 = true := by kernel_rfl
theorem fo83_0 : fieldOff Try.prog 83 0 = some 0 := by kernel_rfl
theorem sz5 : (Try.prog.info? 5).map (·.size) = some 1 := by kernel_rfl
theorem sz83 : (Try.prog.info? 83).map (·.size) = some 2 := by kernel_rfl
theorem ze83 : zeroOf Try.prog 83 = some (.agg #[(.int .i64 0), (.slice none 0 0)]) := by kernel_rfl

set_option maxHeartbeats 4000000 in
theorem decodePlays_ok (w : World) (m : Nat) (hm : m ≤ 2097152) (lox hix : Nat) (C : Option Addr) (cx : Nat) (xs : List Act06) (hrx : RdR w lox hix 2 act06c C cx xs) (hQ : ∀ a ∈ xs, RdB w 0 w.heap.size a.2.1 a.2.2.1 a.2.2.2) :
    Fn Try.prog 11 #[(.int .i64 (↑m : Int)), (.slice C xs.length cx)] w (fun v w' => v = .bool true ∧ Ext w w')  := by
  replace hrx := hrx.top
  have hE := ext_refl w
  refine fn_enter (args := [(.int .i64 (↑m : Int)), (.slice C xs.length cx)]) Try.func11 rfl rfl rfl ?_
  show WC _ _ _ _ [(0, (.int .i64 (↑m : Int))), (1, (.slice C xs.length cx))] _
  refine wc_seq ?_
  refine wc_regionL ?_
  refine wl_val (ov_assign rfl) rfl rfl rfl ?_
  refine q_nil ?_
  refine k_then ?_
  refine wc_seq ?_
  refine wc_seq ?_
  refine wc_regionL ?_
  refine wl_val (ov_move rfl) rfl rfl rfl ?_
  refine wl_step (or_call0 cl43 rfl rfl (few06_any _ _ _ _ _ xs hrx)) rfl rfl rfl ?_
  rintro v w1 ⟨rfl, he23⟩
  replace hrx := hrx.ext he23
  replace hE := hE.tr he23
  have hz_he23 := he23.size
  refine wl_case_d (d := 23) rfl (fun hfew => ?_) (fun hfew => ?_)
  · refine wl_val (ov_not (b := true) rfl) rfl rfl rfl ?_
    refine q_nil ?_
    refine k_then ?_
    refine wc_cond_f rfl ?_
    refine q_skip ?_
    refine k_then ?_
    refine wc_seq ?_
    refine wc_regionL ?_
    refine wl_val (ov_move rfl) rfl rfl rfl ?_
    refine wl_step (or_call0 cl35 rfl rfl (dnew_ok _ (m) (by omega))) rfl rfl rfl ?_
    rintro v w2 ⟨gn28, rfl, hb28, he28, hg128⟩
    replace hrx := hrx.ext he28
    replace hE := hE.tr he28
    have hz_he28 := he28.size
    have hDs28 : ∀ x, (none : Option Nat) = some x → w1.heap.size ≤ x ∧ x < w2.heap.size := fun x e => by cases e
    have hzb28 := hb28.lt.1
    have hcp28 := hb28.cap
    have hnl28 : ([] : List UInt8).length = 0 := rfl
    refine wl_val (ov_move rfl) rfl rfl rfl ?_
    refine wl_val (ov_extract rfl rfl) rfl rfl rfl ?_
    refine wl_val (ov_extract rfl rfl) rfl rfl rfl ?_
    refine wl_val (ov_assign rfl) rfl rfl rfl ?_
    refine wl_val (ov_assign rfl) rfl rfl rfl ?_
    refine q_nil ?_
    refine k_then ?_
    refine wc_seq ?_
    refine wc_regionL ?_
    refine wl_val (ov_move rfl) rfl rfl rfl ?_
    refine wl_step (or_call0 cl31 rfl rfl (rnew06_ok _ (m) (by omega))) rfl rfl rfl ?_
    rintro v w3 ⟨rfl, he33⟩
    replace hrx := hrx.ext he33
    replace hE := hE.tr he33
    replace hb28 := hb28.ext he33
    have hz_he33 := he33.size
    refine wl_val (ov_move rfl) rfl rfl rfl ?_
    refine wl_val (ov_extract rfl rfl) rfl rfl rfl ?_
    refine wl_val (ov_extract rfl rfl) rfl rfl rfl ?_
    refine wl_step (or_alloc (cs := [(.int .i64 0), (.slice none 0 0), (.bool false)]) ze57 rfl) rfl rfl rfl ?_
    rintro v w4 ⟨g7, rfl, hb_g7, he7, hl7, hu7⟩
    replace hrx := hrx.ext he7
    replace hE := hE.tr he7
    replace hb28 := hb28.ext he7
    have hz_he7 := he7.size
    refine wl_step0 (or_storeBlk (vs := [(.int .i64 (↑m : Int)), (.slice none 0 0), (.bool false)]) sz57 rfl rfl (by simp [Value.oneCell']) hb_g7 rfl) rfl rfl ?_
    rintro _ w5 ⟨hN5, hg5⟩
    have hz_hg5 := hg5.size
    replace hrx := hrx.gr hg5 (fun _ e => by cases e; omega)
    replace hE := hE.gr hg5 (fun _ e => by cases e; omega)
    replace hb28 := hb28.gr hg5 (fun x e => by cases e; omega) (fun x e e2 => by cases e; have := hDs28 _ e2; omega)
    replace hb_g7 := hN5
    refine wl_val (ov_assign rfl) rfl rfl rfl ?_
    refine q_nil ?_
    refine k_then ?_
    refine wc_seq ?_
    refine wc_seq ?_
    refine wc_regionL ?_
    refine wl_val (ov_move rfl) rfl rfl rfl ?_
    refine wl_val (ov_move rfl) rfl rfl rfl ?_
    refine wl_val (ov_neq rfl rfl) rfl rfl rfl ?_
    refine wl_val (ov_move rfl) rfl rfl rfl ?_
    refine wl_gval (ov_move rfl) rfl rfl rfl rfl rfl ?_
    refine wl_gval (ov_nilptr Try.underlying68 rfl) rfl rfl rfl rfl rfl ?_
    refine wl_gval (ov_move rfl) rfl rfl rfl rfl rfl ?_
    refine wl_gval (ov_neq rfl rfl) rfl rfl rfl rfl rfl ?_
    refine wl_gval (ov_neb Try.underlying4 rfl rfl) rfl rfl rfl rfl rfl ?_
    refine wl_spell (d := 44) rfl (v' := (.bool false)) (rfl) ?_
    refine wl_val (ov_pick_f rfl rfl) rfl rfl rfl ?_
    refine q_nil ?_
    refine k_then ?_
    refine wc_cond_f rfl ?_
    refine q_skip ?_
    refine k_then ?_
    refine wc_seq ?_
    refine wc_seq ?_
    refine wc_regionL ?_
    refine wl_val (ov_move rfl) rfl rfl rfl ?_
    refine wl_val (ov_nilptr Try.underlying68 rfl) rfl rfl rfl ?_
    refine q_nil ?_
    refine k_then ?_
    refine wc_cond_f rfl ?_
    refine q_skip ?_
    refine k_then ?_
    refine wc_seq ?_
    refine wc_seq ?_
    refine wc_regionL ?_
    refine wl_val (ov_move rfl) rfl rfl rfl ?_
    refine wl_val (ov_len Try.underlying80 rfl) rfl rfl rfl ?_
    refine wl_val (ov_move rfl) rfl rfl rfl ?_
    refine q_nil ?_
    refine k_then ?_
    refine wc_block ?_
    have hgn := hb28.lt.1
    have hrnil := RdB.nil
    have hlo28 : w1.heap.size ≤ w5.heap.size := by omega
    refine wc_loop (σ := Nat × Nat × Nat × Nat × Nat × Option Nat × Bool × List UInt8 × Option Addr × Nat) (fun s => xs.length - s.1) (fun s => [(5, .pointer (some ⟨s.2.2.2.2.1, 0, none⟩)), (7, .pointer (some ⟨g7, 0, none⟩)), (49, .slice C xs.length cx), (50, .int .i64 (xs.length : Int)), (51, .int .i64 (s.1 : Int))]) (fun s w' => s.1 ≤ xs.length ∧ Play06 w.heap.size w' s.2.1 s.2.2.1 s.2.2.2.1 s.2.2.2.2.1 s.2.2.2.2.2.1 m s.2.2.2.2.2.2.1 s.2.2.2.2.2.2.2.1 s.2.2.2.2.2.2.2.2.1 s.2.2.2.2.2.2.2.2.2 ∧ s.2.2.2.2.2.2.2.1.length ≤ 300 * s.1 ∧ Blk w' g7 57 [.int .i64 (m : Int), .slice s.2.2.2.2.2.2.2.2.1 s.2.2.2.2.2.2.2.1.length s.2.2.2.2.2.2.2.2.2, .bool s.2.2.2.2.2.2.1] ∧ s.2.2.2.2.1 ≠ g7 ∧ (∀ x, s.2.2.2.2.2.1 = some x → x ≠ g7) ∧ (g7 < s.2.2.1 ∨ s.2.2.2.1 ≤ g7) ∧ RdR w' lox w.heap.size 2 act06c C cx xs ∧ Ext w w') ((0, _, 0, 0, gn28, none, false, [], none, 0)) (⟨Nat.zero_le _, ⟨hb28, RdB.nil _ 0 0, Nat.zero_le _, hlo28, .inr (Nat.zero_le _), (fun x e => by cases e), fun _ => rfl, by show w.heap.size ≤ gn28; omega, (fun x e => by cases e)⟩, Nat.zero_le _, hb_g7, by show gn28 ≠ g7; omega, (fun x e => by cases e), .inr (Nat.zero_le _), hrx, hE⟩) (⟨rfl, rfl, rfl, rfl, rfl, trivial⟩) ?_
    rintro ⟨k, lo, lor, hir, g, D, cl, l, A, c⟩ wq ⟨hk0, hpl, hl3, hb_g7, hg7, hD7, hr7, hrx, hE⟩
    show WC _ _ _ _ [(5, (.pointer (some ⟨g, 0, none⟩))), (7, (.pointer (some ⟨g7, 0, none⟩))), (49, (.slice C xs.length cx)), (50, (.int .i64 (↑xs.length : Int))), (51, (.int .i64 (↑k : Int)))] _
    replace hk0 : k ≤ xs.length := hk0
    replace hl3 : l.length ≤ 300 * k := hl3
    replace hg7 : g ≠ g7 := hg7
    replace hD7 : ∀ x, D = some x → x ≠ g7 := hD7
    replace hr7 : g7 < lor ∨ hir ≤ g7 := hr7
    replace hb_g7 : Blk wq g7 57 [.int .i64 (m : Int), .slice A l.length c, .bool cl] := hb_g7
    replace hpl : Play06 w.heap.size wq lo lor hir g D m cl l A c := hpl
    obtain ⟨hdec, hr, hhir, hlo, hsg, hsD, hcl, hb0, hbD⟩ := hpl
    have hz_E := hE.size
    have hzb := hdec.lt.1
    have hcp := hdec.cap
    have hg7l := hb_g7.lt
    have hDs : ∀ x, D = some x → w.heap.size ≤ x ∧ x ≠ g7 ∧ (x < lor ∨ hir ≤ x) ∧ x < wq.heap.size := fun x e => ⟨hbD x e, hD7 x e, hsD x e, (hdec.lt.2 x e).2⟩
    refine wc_seq ?_
    refine wc_regionL ?_
    refine wl_val (ov_lss rfl rfl) rfl rfl rfl ?_
    refine q_nil ?_
    refine k_then ?_
    refine wc_seq ?_
    refine wc_cond_d rfl (fun hc4 => ?_) (fun hc4 => ?_)
    · obtain ⟨⟨a1, Aq, cq, q⟩, hk⟩ : ∃ a, xs[k]? = some a := ⟨_, List.getElem?_eq_getElem (by omega)⟩
      have hxm := List.mem_of_getElem? hk
      have hrq : RdB _ 0 w.heap.size Aq cq q := (hQ _ hxm).ext hE
      have hq300 : q.length ≤ 300 := hfew.2 _ hxm
      have hxl := hfew.1
      have hfl := dfeed_len cl l q
      have hnl := dnext_short m cl l
      refine q_skip ?_
      refine k_then ?_
      refine wc_seq ?_
      refine wc_block ?_
      refine wc_seq ?_
      refine wc_regionL ?_
      refine wl_step (or_rindex (m := (k)) sl80 rfl rfl hrx (fun _ _ => rfl) hk) rfl rfl rfl ?_
      rintro v _ ⟨rfl, p53, rfl, hp53, hpl53, hph53⟩
      refine wl_val (ov_loadAgg (cs := [(.int .i64 a1), (.slice Aq q.length cq)]) ag83_2 rfl rfl hp53) rfl rfl rfl ?_
      refine wl_step (or_alloc (cs := [(.int .i64 0), (.slice none 0 0)]) ze83 rfl) rfl rfl rfl ?_
      rintro v w6 ⟨g10, rfl, hb_g10, he10, hl10, hu10⟩
      replace hb_g7 := hb_g7.ext he10
      replace hrx := hrx.ext he10
      replace hdec := hdec.ext he10
      replace hr := hr.ext he10
      replace hE := hE.tr he10
      replace hrq := hrq.ext he10
      have hz_he10 := he10.size
      refine wl_step0 (or_storeBlk (vs := [(.int .i64 a1), (.slice Aq q.length cq)]) sz83 rfl rfl (by simp [Value.oneCell']) hb_g10 rfl) rfl rfl ?_
      rintro _ w7 ⟨hN7, hg7⟩
      have hz_hg7 := hg7.size
      replace hb_g7 := hb_g7.gr hg7 (by intro e; cases e; omega)
      replace hrx := hrx.gr hg7 (fun _ e => by cases e; omega)
      replace hdec := hdec.gr hg7 (fun x e => by cases e; omega) (fun x e e2 => by cases e; have := hDs _ e2; omega)
      replace hr := hr.gr hg7 (fun _ e => by cases e; omega)
      replace hE := hE.gr hg7 (fun _ e => by cases e; omega)
      replace hrq := hrq.gr hg7 (fun _ e => by cases e; omega)
      replace hb_g10 := hN7
      refine q_nil ?_
      refine k_then ?_
      refine wc_seq ?_
      refine wc_seq ?_
      refine wc_regionL ?_
      refine wl_val (ov_field0 (off := 0) fo83_0 rfl) rfl rfl rfl ?_
      refine wl_val (ov_loadAt oc3 rfl hb_g10 rfl) rfl rfl rfl ?_
      refine q_nil ?_
      refine k_then ?_
      refine wc_block ?_
      refine wc_seq ?_
      refine wc_regionL ?_
      refine wl_val (ov_eql rfl rfl) rfl rfl rfl ?_
      refine wl_val (ov_assign rfl) rfl rfl rfl ?_
      refine q_nil ?_
      refine k_then ?_
      refine wc_cond_d rfl (fun hc5 => ?_) (fun hc5 => ?_)
      · refine wc_seq ?_
        refine wc_regionL ?_
        refine wl_val (ov_field0 (off := 1) fo83_1 rfl) rfl rfl rfl ?_
        refine wl_val (ov_loadAt oc26 rfl hb_g10 rfl) rfl rfl rfl ?_
        refine wl_step (or_bappend0 bt26 rfl rfl hrq (by omega)) rfl rfl rfl ?_
        rintro v w8 ⟨A73, c73, rfl, ho73, he73⟩
        replace hb_g7 := hb_g7.ext he73
        replace hrx := hrx.ext he73
        replace hdec := hdec.ext he73
        replace hr := hr.ext he73
        replace hE := hE.tr he73
        replace hrq := hrq.ext he73
        replace hb_g10 := hb_g10.ext he73
        have hz_he73 := he73.size
        have hq_ho73 := fun g e => Own.lt ho73 (g := g) e
        refine wl_val (ov_assign rfl) rfl rfl rfl ?_
        refine q_nil ?_
        refine k_then ?_
        refine wc_seq ?_
        refine wc_regionL ?_
        refine wl_val (ov_loadBlk (cs := [(.int .i64 (↑m : Int)), (.slice A l.length c), (.bool cl)]) ag57_3 rfl hb_g7) rfl rfl rfl ?_
        refine wl_val (ov_field0 (off := 1) fo83_1 rfl) rfl rfl rfl ?_
        refine wl_val (ov_loadAt oc26 rfl hb_g10 rfl) rfl rfl rfl ?_
        refine wl_step (or_call0 cl44 rfl rfl (rfeed06_any _ _ _ (m) _ _ l cl hr (by omega) (by first | omega | (simp; done)) _ _ _ _ q hrq (by omega))) rfl rfl rfl ?_
        rintro v w9 ⟨A78, c78, lo78, hi78, rfl, hr78, hhi78, hlo78, he78⟩
        replace hb_g7 := hb_g7.ext he78
        replace hrx := hrx.ext he78
        replace hdec := hdec.ext he78
        replace hr := hr.ext he78
        replace hE := hE.tr he78
        replace hrq := hrq.ext he78
        replace hb_g10 := hb_g10.ext he78
        replace ho73 := Own.ext ho73 he78
        have hz_he78 := he78.size
        refine wl_val (ov_move rfl) rfl rfl rfl ?_
        refine wl_val (ov_extract rfl rfl) rfl rfl rfl ?_
        refine wl_val (ov_extract rfl rfl) rfl rfl rfl ?_
        refine wl_step (or_alloc (cs := [(.int .i64 0), (.slice none 0 0), (.bool false)]) ze57 rfl) rfl rfl rfl ?_
        rintro v w10 ⟨g12, rfl, hb_g12, he12, hl12, hu12⟩
        replace hb_g7 := hb_g7.ext he12
        replace hrx := hrx.ext he12
        replace hdec := hdec.ext he12
        replace hr := hr.ext he12
        replace hE := hE.tr he12
        replace hrq := hrq.ext he12
        replace hb_g10 := hb_g10.ext he12
        replace ho73 := Own.ext ho73 he12
        replace hr78 := hr78.ext he12
        have hz_he12 := he12.size
        refine wl_step0 (or_storeBlk (vs := [(.int .i64 (↑m : Int)), (.slice A78 (dfeed cl l q).length c78), (.bool cl)]) sz57 rfl rfl (by simp [Value.oneCell']) hb_g12 rfl) rfl rfl ?_
        rintro _ w11 ⟨hN11, hg11⟩
        have hz_hg11 := hg11.size
        replace hb_g7 := hb_g7.gr hg11 (by intro e; cases e; omega)
        replace hrx := hrx.gr hg11 (fun _ e => by cases e; omega)
        replace hdec := hdec.gr hg11 (fun x e => by cases e; omega) (fun x e e2 => by cases e; have := hDs _ e2; omega)
        replace hr := hr.gr hg11 (fun _ e => by cases e; omega)
        replace hE := hE.gr hg11 (fun _ e => by cases e; omega)
        replace hrq := hrq.gr hg11 (fun _ e => by cases e; omega)
        replace hb_g10 := hb_g10.gr hg11 (by intro e; cases e; omega)
        replace ho73 := Own.gr ho73 hg11 (by first | exact .inl rfl | (right; intro e; first | (have := hq_ho73 _ e; omega) | (have := Own.lt ho73 e; omega) | exact own_blk_ne ho73 hb_g12 (by decide) e))
        replace hr78 := hr78.gr hg11 (fun _ e => by cases e; omega)
        replace hb_g12 := hN11
        refine wl_val (ov_assign rfl) rfl rfl rfl ?_
        refine q_nil ?_
        refine k_then ?_
        refine wc_seq ?_
        refine wc_regionL ?_
        refine wl_val (ov_loadBlk (cs := [(.int .i64 (↑m : Int)), (.slice A78 (dfeed cl l q).length c78), (.bool cl)]) ag57_3 rfl hb_g12) rfl rfl rfl ?_
        refine wl_step0 (or_storeBlk (vs := [(.int .i64 (↑m : Int)), (.slice A78 (dfeed cl l q).length c78), (.bool cl)]) sz57 rfl rfl (by simp [Value.oneCell']) hb_g7 rfl) rfl rfl ?_
        rintro _ w12 ⟨hN12, hg12⟩
        have hz_hg12 := hg12.size
        replace hrx := hrx.gr hg12 (fun _ e => by cases e; omega)
        replace hdec := hdec.gr hg12 (fun x e => by cases e; omega) (fun x e e2 => by cases e; have := hDs _ e2; omega)
        replace hr := hr.gr hg12 (fun _ e => by cases e; omega)
        replace hE := hE.gr hg12 (fun _ e => by cases e; omega)
        replace hrq := hrq.gr hg12 (fun _ e => by cases e; omega)
        replace hb_g10 := hb_g10.gr hg12 (by intro e; cases e; omega)
        replace ho73 := Own.gr ho73 hg12 (by first | exact .inl rfl | (right; intro e; first | (have := hq_ho73 _ e; omega) | (have := Own.lt ho73 e; omega) | exact own_blk_ne ho73 hb_g7 (by decide) e))
        replace hr78 := hr78.gr hg12 (fun _ e => by cases e; omega)
        replace hb_g12 := hb_g12.gr hg12 (by intro e; cases e; omega)
        replace hb_g7 := hN12
        refine q_nil ?_
        refine k_then ?_
        refine wc_seq ?_
        refine wc_seq ?_
        refine wc_regionL ?_
        refine wl_val (ov_move rfl) rfl rfl rfl ?_
        refine wl_val (ov_move rfl) rfl rfl rfl ?_
        refine wl_step (or_call0 cl38 rfl rfl (dfeed_ok _ lo g D m cl l hdec (by first | omega | (simp; done)) _ _ _ _ q (OwnB.rd ho73) (by omega) (fun x e => by have := hDs x e; omega) (by omega) (by first | omega | (simp; done)))) rfl rfl rfl ?_
        rintro v w13 ⟨rfl, ⟨D84, hb84, hN84⟩, hC84⟩
        have hDa84 : ∀ x, D = some x → (w.heap.size ≤ x ∧ x ≠ g7 ∧ (x < lor ∨ hir ≤ x) ∧ x < wq.heap.size) ∧ x < w12.heap.size := fun x e => ⟨hDs x e, (hdec.lt.2 x e).2⟩
        have hz_hC84 := hC84.size
        replace hb_g7 := hC84.bk hb_g7 (by omega) (fun e2 => by have := hDa84 _ e2; omega)
        replace hrx := hC84.rd hrx (by omega) (fun x e => by have := hDa84 x e; omega)
        replace hr := hC84.rd hr (by omega) (fun x e => by have := hDa84 x e; omega)
        replace hE := hC84.e0 hE (by omega) (fun x e => by have := hDa84 x e; omega)
        replace hrq := hC84.rd hrq (by omega) (fun x e => by have := hDa84 x e; omega)
        replace hb_g10 := hC84.bk hb_g10 (by omega) (fun e2 => by have := hDa84 _ e2; omega)
        replace ho73 := hC84.own ho73 (fun x e => by first | exact ⟨by have := hq_ho73 x e; omega, fun e2 => by have h1 := hq_ho73 x e; have h2 := hDa84 x e2; omega⟩)
        replace hr78 := hC84.rd hr78 (by omega) (fun x e => by have := hDa84 x e; omega)
        replace hb_g12 := hC84.bk hb_g12 (by omega) (fun e2 => by have := hDa84 _ e2; omega)
        have hDs84 : ∀ x, D84 = some x → ((w.heap.size ≤ x ∧ x ≠ g7 ∧ (x < lor ∨ hir ≤ x) ∧ x < wq.heap.size) ∨ w12.heap.size ≤ x) ∧ x < w13.heap.size := fun x e => ⟨(hN84 x e).imp (fun h => hDs x h) id, (hb84.lt.2 x e).2⟩
        have hzb84 := hb84.lt.1
        have hcp84 := hb84.cap
        refine wl_val (ov_move rfl) rfl rfl rfl ?_
        refine wl_val (ov_neq rfl rfl) rfl rfl rfl ?_
        refine wl_spell (d := 86) rfl (bf (fun h => h rfl)) ?_
        refine q_nil ?_
        refine k_then ?_
        refine wc_cond_f rfl ?_
        refine q_skip ?_
        refine k_then ?_
        refine wc_seq ?_
        refine wc_regionL ?_
        refine wl_val (ov_move rfl) rfl rfl rfl ?_
        refine wl_val (ov_len Try.underlying26 rfl) rfl rfl rfl ?_
        refine wl_val (ov_move rfl) rfl rfl rfl ?_
        refine q_nil ?_
        refine k_then ?_
        have hcap_11 := RdB.cap (OwnB.rd ho73)
        refine wc_block ?_
        refine wc_loop (σ := Nat × List UInt8) (fun s => q.length - s.1) (fun s => [(11, .slice A73 q.length c73), (89, .int .i64 (s.1 : Int)), (5, (.pointer (some ⟨g, 0, none⟩))), (7, (.pointer (some ⟨g7, 0, none⟩))), (49, (.slice C xs.length cx)), (50, (.int .i64 (↑xs.length : Int))), (51, (.int .i64 (↑k : Int))), (88, (.int .i64 (↑q.length : Int)))]) (fun s w' => OwnB w' w7.heap.size 5 A73 c73 s.2 ∧ Gr w13 w' (blk A73) ∧ s.2.length = q.length ∧ s.1 ≤ q.length) (0, q) (⟨ho73, (ext_refl _).row _, rfl, Nat.zero_le _⟩) (⟨rfl, rfl, rfl, rfl, rfl, rfl, rfl, rfl, trivial⟩) ?_
        rintro ⟨k_11, l_11⟩ w14 ⟨ho_11, hG_11, hL_11, hk_11⟩
        simp only at hL_11 hk_11
        replace ho_11 : OwnB _ _ _ _ _ l_11 := ho_11
        show WC _ _ _ _ [(11, (.slice A73 q.length c73)), (89, (.int .i64 (↑k_11 : Int))), (5, (.pointer (some ⟨g, 0, none⟩))), (7, (.pointer (some ⟨g7, 0, none⟩))), (49, (.slice C xs.length cx)), (50, (.int .i64 (↑xs.length : Int))), (51, (.int .i64 (↑k : Int))), (88, (.int .i64 (↑q.length : Int)))] _
        refine wc_seq ?_
        refine wc_regionL ?_
        refine wl_val (ov_lss rfl rfl) rfl rfl rfl ?_
        refine q_nil ?_
        refine k_then ?_
        refine wc_seq ?_
        refine wc_cond_d rfl (fun hc7 => ?_) (fun hc7 => ?_)
        · obtain ⟨g_11, hA_11, hg1_11, hgu_11⟩ := Own.addr ho_11 (by omega)
          subst hA_11
          refine q_skip ?_
          refine k_then ?_
          refine wc_seq ?_
          refine wc_block ?_
          refine wc_seq ?_
          refine wc_regionL ?_
          refine wl_val (ov_move rfl) rfl rfl rfl ?_
          refine wl_val (ov_assign rfl) rfl rfl rfl ?_
          refine q_nil ?_
          refine k_then ?_
          refine wc_regionL ?_
          refine wl_val (ov_move rfl) rfl rfl rfl ?_
          refine wl_val (ov_move rfl) rfl rfl rfl ?_
          refine wl_val (ov_oindex bt26.s rfl rfl rfl (by omega)) rfl rfl rfl ?_
          refine wl_val (ov_load oc5 rfl (OwnB.cellAt ho_11 (by omega))) rfl rfl rfl ?_
          refine wl_val (ov_add rfl rfl (wu8_succ _)) rfl rfl rfl ?_
          refine wl_val (ov_oindex bt26.s rfl rfl rfl (by omega)) rfl rfl rfl ?_
          refine wl_step0 (or_storeOwn sz5 rfl rfl ho_11 (by omega)) rfl rfl ?_
          rintro _ w15 ⟨ho2_11, hg2_11⟩
          have hz2_11 := hg2_11.size
          refine q_nil ?_
          refine k_block ?_
          refine k_then ?_
          refine wc_regionL ?_
          refine wl_val (ov_add rfl rfl (wi64 (by omega) (by omega))) rfl rfl rfl ?_
          refine wl_val (ov_move rfl) rfl rfl rfl ?_
          refine q_nil ?_
          refine k_loop ((k_11 + 1, l_11.set k_11 ((l_11.getD k_11 0) + 1))) (by show q.length - (k_11 + 1) < q.length - k_11; omega) (⟨rfl, rfl, rfl, rfl, rfl, rfl, rfl, rfl, trivial⟩) (⟨ho2_11, hG_11.gr hg2_11 (fun g e => .inl e), by show (List.set _ _ _).length = _; rw [List.length_set]; exact hL_11, by show k_11 + 1 ≤ _; omega⟩)
        · refine wc_spell (d := 11) rfl (v' := .slice A73 l_11.length c73) (by rw [hL_11]) ?_
          have hz_hG_11 := hG_11.size
          replace hb_g7 := hb_g7.gr hG_11 (fun e => by have := hq_ho73 _ e; omega)
          replace hrx := hrx.gr hG_11 (fun g e => by have := hq_ho73 g e; omega)
          replace hr := hr.gr hG_11 (fun g e => by have := hq_ho73 g e; omega)
          replace hE := hE.gr hG_11 (fun g e => by have := hq_ho73 g e; omega)
          replace hrq := hrq.gr hG_11 (fun g e => by have := hq_ho73 g e; omega)
          replace hb_g10 := hb_g10.gr hG_11 (fun e => by have := hq_ho73 _ e; omega)
          replace hr78 := hr78.gr hG_11 (fun g e => by have := hq_ho73 g e; omega)
          replace hb_g12 := hb_g12.gr hG_11 (fun e => by have := hq_ho73 _ e; omega)
          replace hb84 := by first | exact hb84.gr hG_11 (fun x e => by have := hq_ho73 x e; omega) (fun x e e2 => by have h1 := hq_ho73 x e; have h2 := hDs84 x e2; omega)
          have hq_ho_11 := fun g e => Own.lt ho_11 (g := g) e
          refine q_exit ?_
          refine k_thenX ?_
          refine k_thenX ?_
          refine k_blockE ?_
          refine k_block ?_
          refine k_then ?_
          refine wc_seq ?_
          refine wc_draw mixed 18 [(136, eqv (.pointer (some ⟨g, 0, none⟩))), (137, eqv (.int .i64 (↑(dheld cl (dfeed cl l q)) : Int))), (138, eqv (.pointer (some ⟨g7, 1, none⟩))), (139, eqv (.slice A78 (dfeed cl l q).length c78)), (140, eqv (.int .i64 (↑(dfeed cl l q).length : Int))), (141, eqv (.bool false)), (142, eqv (.bool false)), (143, eqv (.pointer (some ⟨g, 0, none⟩))), (144, eqv (.int .i64 (dneed m cl (dfeed cl l q)))), (145, eqv (.agg #[(.int .i64 (↑m : Int)), (.slice A78 (dfeed cl l q).length c78), (.bool cl)])), (146, eqv (.int .i64 (dneed (m) cl (dfeed cl l q)))), (147, eqv (.bool false)), (148, eqv (.bool false)), (149, eqv (.bool false)), (150, eqv (.pointer (some ⟨g, 0, none⟩))), (151, eqv (.bool cl)), (152, eqv (.pointer (some ⟨g7, 2, none⟩))), (153, eqv (.bool cl))] [[], [0], [], [2], [3], [1, 4], [5], [6], [6, 7], [6], [6, 9], [6, 8, 10], [6, 11], [12], [13], [13, 14], [13], [13, 16]] _ [] [] (fun _ _ h => h) trivial (by kernel_rfl) rfl ⟨⟨stb_eqv _, fun _ he => by cases he⟩, ⟨stb_eqv _, fun _ he => by cases he⟩, ⟨stb_eqv _, fun _ he => by cases he⟩, ⟨stb_eqv _, fun _ he => by cases he⟩, ⟨stb_eqv _, fun _ he => by cases he⟩, ⟨stb_eqv _, fun _ he => by cases he⟩, ⟨stb_eqv _, fun _ he => by cases he⟩, ⟨stb_eqv _, fun _ he => by cases he⟩, ⟨stb_eqv _, fun _ he => by cases he⟩, ⟨stb_eqv _, fun _ he => by cases he⟩, ⟨stb_eqv _, fun _ he => by cases he⟩, ⟨stb_eqv _, fun _ he => by cases he⟩, ⟨stb_eqv _, fun _ he => by cases he⟩, ⟨stb_eqv _, fun _ he => by cases he⟩, ⟨stb_eqv _, fun _ he => by cases he⟩, ⟨stb_eqv _, fun _ he => by cases he⟩, ⟨stb_eqv _, fun _ he => by cases he⟩, ⟨stb_eqv _, fun _ he => by cases he⟩, trivial⟩ ⟨?_, ?_, ?_, ?_, ?_, ?_, ?_, ?_, ?_, ?_, ?_, ?_, ?_, ?_, ?_, ?_, ?_, ?_, trivial⟩ ?_
          · intro wd hxE
            replace hb_g7 := hb_g7.ext hxE
            replace hrx := hrx.ext hxE
            replace hr := hr.ext hxE
            replace hE := hE.tr hxE
            replace hrq := hrq.ext hxE
            replace hb_g10 := hb_g10.ext hxE
            replace hr78 := hr78.ext hxE
            replace hb_g12 := hb_g12.ext hxE
            replace hb84 := hb84.ext hxE
            replace ho_11 := Own.ext ho_11 hxE
            have hz_hxE := hxE.size
            show OpG _ _ _ _ _ _
            exact og_plain rfl (ox_val (ov_move rfl))
          · intro wd hxE
            replace hb_g7 := hb_g7.ext hxE
            replace hrx := hrx.ext hxE
            replace hr := hr.ext hxE
            replace hE := hE.tr hxE
            replace hrq := hrq.ext hxE
            replace hb_g10 := hb_g10.ext hxE
            replace hr78 := hr78.ext hxE
            replace hb_g12 := hb_g12.ext hxE
            replace hb84 := hb84.ext hxE
            replace ho_11 := Own.ext ho_11 hxE
            have hz_hxE := hxE.size
            rintro _ rfl
            show OpG _ _ _ _ _ _
            refine og_plain rfl (OpRun.mono (or_call0 cl42 rfl rfl (dheld_ok _ lo g D84 m cl (dfeed cl l q) hb84 (by first | omega | (simp; done)))) ?_)
            rintro v w215 ⟨rfl, he137⟩
            replace hb_g7 := hb_g7.ext he137
            replace hrx := hrx.ext he137
            replace hr := hr.ext he137
            replace hE := hE.tr he137
            replace hrq := hrq.ext he137
            replace hb_g10 := hb_g10.ext he137
            replace hr78 := hr78.ext he137
            replace hb_g12 := hb_g12.ext he137
            replace hb84 := hb84.ext he137
            replace ho_11 := Own.ext ho_11 he137
            have hz_he137 := he137.size
            exact ⟨rfl, he137⟩
          · intro wd hxE
            replace hb_g7 := hb_g7.ext hxE
            replace hrx := hrx.ext hxE
            replace hr := hr.ext hxE
            replace hE := hE.tr hxE
            replace hrq := hrq.ext hxE
            replace hb_g10 := hb_g10.ext hxE
            replace hr78 := hr78.ext hxE
            replace hb_g12 := hb_g12.ext hxE
            replace hb84 := hb84.ext hxE
            replace ho_11 := Own.ext ho_11 hxE
            have hz_hxE := hxE.size
            show OpG _ _ _ _ _ _
            exact og_plain rfl (ox_val (ov_field0 (off := 1) fo57_1 rfl))
          · intro wd hxE
            replace hb_g7 := hb_g7.ext hxE
            replace hrx := hrx.ext hxE
            replace hr := hr.ext hxE
            replace hE := hE.tr hxE
            replace hrq := hrq.ext hxE
            replace hb_g10 := hb_g10.ext hxE
            replace hr78 := hr78.ext hxE
            replace hb_g12 := hb_g12.ext hxE
            replace hb84 := hb84.ext hxE
            replace ho_11 := Own.ext ho_11 hxE
            have hz_hxE := hxE.size
            rintro _ rfl
            show OpG _ _ _ _ _ _
            exact og_plain rfl (ox_val (ov_loadAt oc26 rfl hb_g7 rfl))
          · intro wd hxE
            replace hb_g7 := hb_g7.ext hxE
            replace hrx := hrx.ext hxE
            replace hr := hr.ext hxE
            replace hE := hE.tr hxE
            replace hrq := hrq.ext hxE
            replace hb_g10 := hb_g10.ext hxE
            replace hr78 := hr78.ext hxE
            replace hb_g12 := hb_g12.ext hxE
            replace hb84 := hb84.ext hxE
            replace ho_11 := Own.ext ho_11 hxE
            have hz_hxE := hxE.size
            rintro _ rfl
            show OpG _ _ _ _ _ _
            exact og_plain rfl (ox_val (ov_len Try.underlying26 rfl))
          · intro wd hxE
            replace hb_g7 := hb_g7.ext hxE
            replace hrx := hrx.ext hxE
            replace hr := hr.ext hxE
            replace hE := hE.tr hxE
            replace hrq := hrq.ext hxE
            replace hb_g10 := hb_g10.ext hxE
            replace hr78 := hr78.ext hxE
            replace hb_g12 := hb_g12.ext hxE
            replace hb84 := hb84.ext hxE
            replace ho_11 := Own.ext ho_11 hxE
            have hz_hxE := hxE.size
            rintro _ rfl
            rintro _ rfl
            show OpG _ _ _ _ _ _
            exact og_plain rfl (ox_F (fun h => h (dheld_len (dfeed_cl q hcl))) (ov_neq rfl rfl))
          · intro wd hxE
            replace hb_g7 := hb_g7.ext hxE
            replace hrx := hrx.ext hxE
            replace hr := hr.ext hxE
            replace hE := hE.tr hxE
            replace hrq := hrq.ext hxE
            replace hb_g10 := hb_g10.ext hxE
            replace hr78 := hr78.ext hxE
            replace hb_g12 := hb_g12.ext hxE
            replace hb84 := hb84.ext hxE
            replace ho_11 := Own.ext ho_11 hxE
            have hz_hxE := hxE.size
            rintro _ rfl
            show OpG _ _ _ _ _ _
            exact og_plain rfl (ox_val (ov_move rfl))
          · intro wd hxE
            replace hb_g7 := hb_g7.ext hxE
            replace hrx := hrx.ext hxE
            replace hr := hr.ext hxE
            replace hE := hE.tr hxE
            replace hrq := hrq.ext hxE
            replace hb_g10 := hb_g10.ext hxE
            replace hr78 := hr78.ext hxE
            replace hb_g12 := hb_g12.ext hxE
            replace hb84 := hb84.ext hxE
            replace ho_11 := Own.ext ho_11 hxE
            have hz_hxE := hxE.size
            rintro _ rfl
            show OpG _ _ _ _ _ _
            exact og_on rfl rfl rfl (ox_val (ov_move rfl))
          · intro wd hxE
            replace hb_g7 := hb_g7.ext hxE
            replace hrx := hrx.ext hxE
            replace hr := hr.ext hxE
            replace hE := hE.tr hxE
            replace hrq := hrq.ext hxE
            replace hb_g10 := hb_g10.ext hxE
            replace hr78 := hr78.ext hxE
            replace hb_g12 := hb_g12.ext hxE
            replace hb84 := hb84.ext hxE
            replace ho_11 := Own.ext ho_11 hxE
            have hz_hxE := hxE.size
            rintro _ rfl
            rintro _ rfl
            show OpG _ _ _ _ _ _
            refine og_on rfl rfl rfl (OpRun.mono (or_call0 cl39 rfl rfl (dneed_ok _ lo g D84 m cl (dfeed cl l q) hb84 (by first | omega | (simp; done)))) ?_)
            rintro v w215 ⟨rfl, he144⟩
            replace hb_g7 := hb_g7.ext he144
            replace hrx := hrx.ext he144
            replace hr := hr.ext he144
            replace hE := hE.tr he144
            replace hrq := hrq.ext he144
            replace hb_g10 := hb_g10.ext he144
            replace hr78 := hr78.ext he144
            replace hb_g12 := hb_g12.ext he144
            replace hb84 := hb84.ext he144
            replace ho_11 := Own.ext ho_11 he144
            have hz_he144 := he144.size
            exact ⟨rfl, he144⟩
          · intro wd hxE
            replace hb_g7 := hb_g7.ext hxE
            replace hrx := hrx.ext hxE
            replace hr := hr.ext hxE
            replace hE := hE.tr hxE
            replace hrq := hrq.ext hxE
            replace hb_g10 := hb_g10.ext hxE
            replace hr78 := hr78.ext hxE
            replace hb_g12 := hb_g12.ext hxE
            replace hb84 := hb84.ext hxE
            replace ho_11 := Own.ext ho_11 hxE
            have hz_hxE := hxE.size
            rintro _ rfl
            show OpG _ _ _ _ _ _
            exact og_on rfl rfl rfl (ox_val (ov_loadBlk (cs := [(.int .i64 (↑m : Int)), (.slice A78 (dfeed cl l q).length c78), (.bool cl)]) ag57_3 rfl hb_g7))
          · intro wd hxE
            replace hb_g7 := hb_g7.ext hxE
            replace hrx := hrx.ext hxE
            replace hr := hr.ext hxE
            replace hE := hE.tr hxE
            replace hrq := hrq.ext hxE
            replace hb_g10 := hb_g10.ext hxE
            replace hr78 := hr78.ext hxE
            replace hb_g12 := hb_g12.ext hxE
            replace hb84 := hb84.ext hxE
            replace ho_11 := Own.ext ho_11 hxE
            have hz_hxE := hxE.size
            rintro _ rfl
            rintro _ rfl
            show OpG _ _ _ _ _ _
            refine og_on rfl rfl rfl (OpRun.mono (or_call0 cl48 rfl rfl (rneed06_any _ _ _ (m) _ _ (dfeed cl l q) cl hr78 (by omega) (by first | omega | (simp; done)) (by omega))) ?_)
            rintro v w215 ⟨rfl, he146⟩
            replace hb_g7 := hb_g7.ext he146
            replace hrx := hrx.ext he146
            replace hr := hr.ext he146
            replace hE := hE.tr he146
            replace hrq := hrq.ext he146
            replace hb_g10 := hb_g10.ext he146
            replace hr78 := hr78.ext he146
            replace hb_g12 := hb_g12.ext he146
            replace hb84 := hb84.ext he146
            replace ho_11 := Own.ext ho_11 he146
            have hz_he146 := he146.size
            exact ⟨rfl, he146⟩
          · intro wd hxE
            replace hb_g7 := hb_g7.ext hxE
            replace hrx := hrx.ext hxE
            replace hr := hr.ext hxE
            replace hE := hE.tr hxE
            replace hrq := hrq.ext hxE
            replace hb_g10 := hb_g10.ext hxE
            replace hr78 := hr78.ext hxE
            replace hb_g12 := hb_g12.ext hxE
            replace hb84 := hb84.ext hxE
            replace ho_11 := Own.ext ho_11 hxE
            have hz_hxE := hxE.size
            rintro _ rfl
            rintro _ rfl
            rintro _ rfl
            show OpG _ _ _ _ _ _
            exact og_on rfl rfl rfl (ox_F (fun h => h rfl) (ov_neq rfl rfl))
          · intro wd hxE
            replace hb_g7 := hb_g7.ext hxE
            replace hrx := hrx.ext hxE
            replace hr := hr.ext hxE
            replace hE := hE.tr hxE
            replace hrq := hrq.ext hxE
            replace hb_g10 := hb_g10.ext hxE
            replace hr78 := hr78.ext hxE
            replace hb_g12 := hb_g12.ext hxE
            replace hb84 := hb84.ext hxE
            replace ho_11 := Own.ext ho_11 hxE
            have hz_hxE := hxE.size
            rintro _ rfl
            rintro _ rfl
            show OpG _ _ _ _ _ _
            exact og_plain rfl (ox_val (ov_pick_f rfl rfl))
          · intro wd hxE
            replace hb_g7 := hb_g7.ext hxE
            replace hrx := hrx.ext hxE
            replace hr := hr.ext hxE
            replace hE := hE.tr hxE
            replace hrq := hrq.ext hxE
            replace hb_g10 := hb_g10.ext hxE
            replace hr78 := hr78.ext hxE
            replace hb_g12 := hb_g12.ext hxE
            replace hb84 := hb84.ext hxE
            replace ho_11 := Own.ext ho_11 hxE
            have hz_hxE := hxE.size
            rintro _ rfl
            show OpG _ _ _ _ _ _
            exact og_plain rfl (ox_val (ov_move rfl))
          · intro wd hxE
            replace hb_g7 := hb_g7.ext hxE
            replace hrx := hrx.ext hxE
            replace hr := hr.ext hxE
            replace hE := hE.tr hxE
            replace hrq := hrq.ext hxE
            replace hb_g10 := hb_g10.ext hxE
            replace hr78 := hr78.ext hxE
            replace hb_g12 := hb_g12.ext hxE
            replace hb84 := hb84.ext hxE
            replace ho_11 := Own.ext ho_11 hxE
            have hz_hxE := hxE.size
            rintro _ rfl
            show OpG _ _ _ _ _ _
            exact og_on rfl rfl rfl (ox_val (ov_move rfl))
          · intro wd hxE
            replace hb_g7 := hb_g7.ext hxE
            replace hrx := hrx.ext hxE
            replace hr := hr.ext hxE
            replace hE := hE.tr hxE
            replace hrq := hrq.ext hxE
            replace hb_g10 := hb_g10.ext hxE
            replace hr78 := hr78.ext hxE
            replace hb_g12 := hb_g12.ext hxE
            replace hb84 := hb84.ext hxE
            replace ho_11 := Own.ext ho_11 hxE
            have hz_hxE := hxE.size
            rintro _ rfl
            rintro _ rfl
            show OpG _ _ _ _ _ _
            refine og_on rfl rfl rfl (OpRun.mono (or_call0 cl49 rfl rfl (dclosed_ok _ lo g D84 m cl (dfeed cl l q) hb84 (by first | omega | (simp; done)))) ?_)
            rintro v w215 ⟨rfl, he151⟩
            replace hb_g7 := hb_g7.ext he151
            replace hrx := hrx.ext he151
            replace hr := hr.ext he151
            replace hE := hE.tr he151
            replace hrq := hrq.ext he151
            replace hb_g10 := hb_g10.ext he151
            replace hr78 := hr78.ext he151
            replace hb_g12 := hb_g12.ext he151
            replace hb84 := hb84.ext he151
            replace ho_11 := Own.ext ho_11 he151
            have hz_he151 := he151.size
            exact ⟨rfl, he151⟩
          · intro wd hxE
            replace hb_g7 := hb_g7.ext hxE
            replace hrx := hrx.ext hxE
            replace hr := hr.ext hxE
            replace hE := hE.tr hxE
            replace hrq := hrq.ext hxE
            replace hb_g10 := hb_g10.ext hxE
            replace hr78 := hr78.ext hxE
            replace hb_g12 := hb_g12.ext hxE
            replace hb84 := hb84.ext hxE
            replace ho_11 := Own.ext ho_11 hxE
            have hz_hxE := hxE.size
            rintro _ rfl
            show OpG _ _ _ _ _ _
            exact og_on rfl rfl rfl (ox_val (ov_field0 (off := 2) fo57_2 rfl))
          · intro wd hxE
            replace hb_g7 := hb_g7.ext hxE
            replace hrx := hrx.ext hxE
            replace hr := hr.ext hxE
            replace hE := hE.tr hxE
            replace hrq := hrq.ext hxE
            replace hb_g10 := hb_g10.ext hxE
            replace hr78 := hr78.ext hxE
            replace hb_g12 := hb_g12.ext hxE
            replace hb84 := hb84.ext hxE
            replace ho_11 := Own.ext ho_11 hxE
            have hz_hxE := hxE.size
            rintro _ rfl
            rintro _ rfl
            show OpG _ _ _ _ _ _
            exact og_on rfl rfl rfl (ox_val (ov_loadAt oc4 rfl hb_g7 rfl))
          · intro wf42 hf42
            replace hb_g7 := hb_g7.ext hf42
            replace hrx := hrx.ext hf42
            replace hr := hr.ext hf42
            replace hE := hE.tr hf42
            replace hrq := hrq.ext hf42
            replace hb_g10 := hb_g10.ext hf42
            replace hr78 := hr78.ext hf42
            replace hb_g12 := hb_g12.ext hf42
            replace hb84 := hb84.ext hf42
            replace ho_11 := Own.ext ho_11 hf42
            have hz_hf42 := hf42.size
            rintro _ rfl
            rintro _ rfl
            rintro _ rfl
            rintro _ rfl
            rintro _ rfl
            rintro _ rfl
            rintro _ rfl
            rintro _ rfl
            rintro _ rfl
            rintro _ rfl
            rintro _ rfl
            rintro _ rfl
            rintro _ rfl
            rintro _ rfl
            rintro _ rfl
            rintro _ rfl
            rintro _ rfl
            rintro _ rfl
            show WL _ _ _ [_, _] _ _ _
            refine wl_gval (ov_neb Try.underlying4 rfl rfl) rfl rfl rfl rfl rfl ?_
            refine wl_spell (d := 154) rfl (v' := (.bool false)) (by simp) ?_
            refine wl_val (ov_pick_f rfl rfl) rfl rfl rfl ?_
            refine q_nil ?_
            refine k_then ?_
            refine wc_cond_f rfl ?_
            refine q_skip ?_
            refine k_block ?_
            refine k_then ?_
            refine wc_regionL ?_
            refine wl_val (ov_add rfl rfl (wi64 (by omega) (by omega))) rfl rfl rfl ?_
            refine wl_val (ov_move rfl) rfl rfl rfl ?_
            refine q_nil ?_
            refine k_loop ((k + 1, lo, lo78, hi78, g, D84, cl, (dfeed cl l q), A78, c78)) (by show xs.length - (k + 1) < xs.length - k; omega) (⟨rfl, rfl, rfl, rfl, rfl, trivial⟩) (⟨by show k + 1 ≤ _; omega, ⟨hb84, hr78, by first | omega | (dsimp only; omega), by first | omega | (dsimp only; omega), by first | omega | (dsimp only; omega), fun x e => by have := hDs84 x e; first | omega | (dsimp only; omega), dfeed_cl q hcl, by first | omega | (dsimp only; omega), fun x e => by have := hDs84 x e; omega⟩, by show (dfeed cl l q).length ≤ 300 * (k + 1); omega, hb_g7, by first | omega | (dsimp only; omega), fun x e => by have := hDs84 x e; omega, by first | omega | (dsimp only; omega), hrx, hE⟩)
      · refine wc_seq ?_
        refine wc_regionL ?_
        refine wl_val (ov_eql rfl rfl) rfl rfl rfl ?_
        refine wl_val (ov_assign rfl) rfl rfl rfl ?_
        refine q_nil ?_
        refine k_then ?_
        refine wc_cond_d rfl (fun hc8 => ?_) (fun hc8 => ?_)
        · refine wc_seq ?_
          refine wc_regionL ?_
          refine wl_val (ov_loadBlk (cs := [(.int .i64 (↑m : Int)), (.slice A l.length c), (.bool cl)]) ag57_3 rfl hb_g7) rfl rfl rfl ?_
          refine wl_step (or_call0 cl45 rfl rfl (rnext06_any _ _ _ (m) _ _ l cl hr (by omega) (by first | omega | (simp; done)) (by omega))) rfl rfl rfl ?_
          rintro v w208 ⟨A103, c103, B103, d103, rfl, hr103, ho103, he103⟩
          replace hb_g7 := hb_g7.ext he103
          replace hrx := hrx.ext he103
          replace hdec := hdec.ext he103
          replace hr := hr.ext he103
          replace hE := hE.tr he103
          replace hrq := hrq.ext he103
          replace hb_g10 := hb_g10.ext he103
          have hz_he103 := he103.size
          have hq_ho103 := fun g e => Own.lt ho103 (g := g) e
          refine wl_val (ov_move rfl) rfl rfl rfl ?_
          refine wl_val (ov_extract rfl rfl) rfl rfl rfl ?_
          refine wl_val (ov_extract rfl rfl) rfl rfl rfl ?_
          refine wl_val (ov_extract rfl rfl) rfl rfl rfl ?_
          refine wl_step (or_alloc (cs := [(.int .i64 0), (.slice none 0 0), (.bool false)]) ze57 rfl) rfl rfl rfl ?_
          rintro v w209 ⟨g15, rfl, hb_g15, he15, hl15, hu15⟩
          replace hb_g7 := hb_g7.ext he15
          replace hrx := hrx.ext he15
          replace hdec := hdec.ext he15
          replace hr := hr.ext he15
          replace hE := hE.tr he15
          replace hrq := hrq.ext he15
          replace hb_g10 := hb_g10.ext he15
          replace hr103 := hr103.ext he15
          replace ho103 := Own.ext ho103 he15
          have hz_he15 := he15.size
          refine wl_step (or_alloc (cs := [(.int .u8 0), (.slice none 0 0)]) ze72 rfl) rfl rfl rfl ?_
          rintro v w210 ⟨g16, rfl, hb_g16, he16, hl16, hu16⟩
          replace hb_g7 := hb_g7.ext he16
          replace hrx := hrx.ext he16
          replace hdec := hdec.ext he16
          replace hr := hr.ext he16
          replace hE := hE.tr he16
          replace hrq := hrq.ext he16
          replace hb_g10 := hb_g10.ext he16
          replace hr103 := hr103.ext he16
          replace ho103 := Own.ext ho103 he16
          replace hb_g15 := hb_g15.ext he16
          have hz_he16 := he16.size
          refine wl_step0 (or_storeBlk (vs := [(.int .i64 (↑m : Int)), (.slice A103 (dnext (m) cl l).2.1.length c103), (.bool (dnext (m) cl l).1)]) sz57 rfl rfl (by simp [Value.oneCell']) hb_g15 rfl) rfl rfl ?_
          rintro _ w211 ⟨hN211, hg211⟩
          have hz_hg211 := hg211.size
          replace hb_g7 := hb_g7.gr hg211 (by intro e; cases e; omega)
          replace hrx := hrx.gr hg211 (fun _ e => by cases e; omega)
          replace hdec := hdec.gr hg211 (fun x e => by cases e; omega) (fun x e e2 => by cases e; have := hDs _ e2; omega)
          replace hr := hr.gr hg211 (fun _ e => by cases e; omega)
          replace hE := hE.gr hg211 (fun _ e => by cases e; omega)
          replace hrq := hrq.gr hg211 (fun _ e => by cases e; omega)
          replace hb_g10 := hb_g10.gr hg211 (by intro e; cases e; omega)
          replace hr103 := hr103.gr hg211 (fun _ e => by cases e; omega)
          replace ho103 := Own.gr ho103 hg211 (by first | exact .inl rfl | (right; intro e; first | (have := hq_ho103 _ e; omega) | (have := Own.lt ho103 e; omega) | exact own_blk_ne ho103 hb_g15 (by decide) e))
          replace hb_g16 := hb_g16.gr hg211 (by intro e; cases e; omega)
          replace hb_g15 := hN211
          refine wl_step0 (or_storeBlk (vs := [(.int .u8 (↑(dnext (m) cl l).2.2.1.1.toNat : Int)), (.slice B103 (dnext (m) cl l).2.2.1.2.length d103)]) sz72 rfl rfl (by simp [Value.oneCell']) hb_g16 rfl) rfl rfl ?_
          rintro _ w212 ⟨hN212, hg212⟩
          have hz_hg212 := hg212.size
          replace hb_g7 := hb_g7.gr hg212 (by intro e; cases e; omega)
          replace hrx := hrx.gr hg212 (fun _ e => by cases e; omega)
          replace hdec := hdec.gr hg212 (fun x e => by cases e; omega) (fun x e e2 => by cases e; have := hDs _ e2; omega)
          replace hr := hr.gr hg212 (fun _ e => by cases e; omega)
          replace hE := hE.gr hg212 (fun _ e => by cases e; omega)
          replace hrq := hrq.gr hg212 (fun _ e => by cases e; omega)
          replace hb_g10 := hb_g10.gr hg212 (by intro e; cases e; omega)
          replace hr103 := hr103.gr hg212 (fun _ e => by cases e; omega)
          replace ho103 := Own.gr ho103 hg212 (by first | exact .inl rfl | (right; intro e; first | (have := hq_ho103 _ e; omega) | (have := Own.lt ho103 e; omega) | exact own_blk_ne ho103 hb_g16 (by decide) e))
          replace hb_g15 := hb_g15.gr hg212 (by intro e; cases e; omega)
          replace hb_g16 := hN212
          refine wl_val (ov_assign rfl) rfl rfl rfl ?_
          refine q_nil ?_
          refine k_then ?_
          refine wc_seq ?_
          refine wc_regionL ?_
          refine wl_val (ov_loadBlk (cs := [(.int .i64 (↑m : Int)), (.slice A103 (dnext (m) cl l).2.1.length c103), (.bool (dnext (m) cl l).1)]) ag57_3 rfl hb_g15) rfl rfl rfl ?_
          refine wl_step0 (or_storeBlk (vs := [(.int .i64 (↑m : Int)), (.slice A103 (dnext (m) cl l).2.1.length c103), (.bool (dnext (m) cl l).1)]) sz57 rfl rfl (by simp [Value.oneCell']) hb_g7 rfl) rfl rfl ?_
          rintro _ w213 ⟨hN213, hg213⟩
          have hz_hg213 := hg213.size
          replace hrx := hrx.gr hg213 (fun _ e => by cases e; omega)
          replace hdec := hdec.gr hg213 (fun x e => by cases e; omega) (fun x e e2 => by cases e; have := hDs _ e2; omega)
          replace hr := hr.gr hg213 (fun _ e => by cases e; omega)
          replace hE := hE.gr hg213 (fun _ e => by cases e; omega)
          replace hrq := hrq.gr hg213 (fun _ e => by cases e; omega)
          replace hb_g10 := hb_g10.gr hg213 (by intro e; cases e; omega)
          replace hr103 := hr103.gr hg213 (fun _ e => by cases e; omega)
          replace ho103 := Own.gr ho103 hg213 (by first | exact .inl rfl | (right; intro e; first | (have := hq_ho103 _ e; omega) | (have := Own.lt ho103 e; omega) | exact own_blk_ne ho103 hb_g7 (by decide) e))
          replace hb_g15 := hb_g15.gr hg213 (by intro e; cases e; omega)
          replace hb_g16 := hb_g16.gr hg213 (by intro e; cases e; omega)
          replace hb_g7 := hN213
          refine q_nil ?_
          refine k_then ?_
          refine wc_seq ?_
          refine wc_regionL ?_
          refine wl_val (ov_move rfl) rfl rfl rfl ?_
          refine wl_step (or_call0 cl37 rfl rfl (dnext_ok _ lo g D m cl l hdec (by first | omega | (simp; done)))) rfl rfl rfl ?_
          rintro v w214 ⟨A110, c110, rfl, ho110, hb110, hC110⟩
          have hDa110 : ∀ x, D = some x → (w.heap.size ≤ x ∧ x ≠ g7 ∧ (x < lor ∨ hir ≤ x) ∧ x < wq.heap.size) ∧ x < w213.heap.size := fun x e => ⟨hDs x e, (hdec.lt.2 x e).2⟩
          have hz_hC110 := hC110.size
          replace hb_g7 := hC110.bk hb_g7 (by omega) (fun e2 => by have := hDa110 _ e2; omega)
          replace hrx := hC110.rd hrx (by omega) (fun x e => by have := hDa110 x e; omega)
          replace hr := hC110.rd hr (by omega) (fun x e => by have := hDa110 x e; omega)
          replace hE := hC110.e0 hE (by omega) (fun x e => by have := hDa110 x e; omega)
          replace hrq := hC110.rd hrq (by omega) (fun x e => by have := hDa110 x e; omega)
          replace hb_g10 := hC110.bk hb_g10 (by omega) (fun e2 => by have := hDa110 _ e2; omega)
          replace hr103 := hC110.rd hr103 (by omega) (fun x e => by have := hDa110 x e; omega)
          replace ho103 := hC110.own ho103 (fun x e => by first | exact ⟨by have := hq_ho103 x e; omega, fun e2 => by have h1 := hq_ho103 x e; have h2 := hDa110 x e2; omega⟩)
          replace hb_g15 := hC110.bk hb_g15 (by omega) (fun e2 => by have := hDa110 _ e2; omega)
          replace hb_g16 := hC110.bk hb_g16 (by omega) (fun e2 => by have := hDa110 _ e2; omega)
          have hzb110 := hb110.lt.1
          have hcp110 := hb110.cap
          have hq_ho110 := fun g e => Own.lt ho110 (g := g) e
          refine wl_val (ov_move rfl) rfl rfl rfl ?_
          refine wl_val (ov_extract rfl rfl) rfl rfl rfl ?_
          refine wl_val (ov_extract rfl rfl) rfl rfl rfl ?_
          refine wl_step (or_alloc (cs := [(.int .u8 0), (.slice none 0 0)]) ze72 rfl) rfl rfl rfl ?_
          rintro v w215 ⟨g18, rfl, hb_g18, he18, hl18, hu18⟩
          replace hb_g7 := hb_g7.ext he18
          replace hrx := hrx.ext he18
          replace hr := hr.ext he18
          replace hE := hE.tr he18
          replace hrq := hrq.ext he18
          replace hb_g10 := hb_g10.ext he18
          replace hr103 := hr103.ext he18
          replace ho103 := Own.ext ho103 he18
          replace hb_g15 := hb_g15.ext he18
          replace hb_g16 := hb_g16.ext he18
          replace hb110 := hb110.ext he18
          replace ho110 := Own.ext ho110 he18
          have hz_he18 := he18.size
          refine wl_step0 (or_storeBlk (vs := [(.int .u8 (↑(dnext m cl l).2.2.1.1.toNat : Int)), (.slice A110 (dnext m cl l).2.2.1.2.length c110)]) sz72 rfl rfl (by simp [Value.oneCell']) hb_g18 rfl) rfl rfl ?_
          rintro _ w216 ⟨hN216, hg216⟩
          have hz_hg216 := hg216.size
          replace hb_g7 := hb_g7.gr hg216 (by intro e; cases e; omega)
          replace hrx := hrx.gr hg216 (fun _ e => by cases e; omega)
          replace hr := hr.gr hg216 (fun _ e => by cases e; omega)
          replace hE := hE.gr hg216 (fun _ e => by cases e; omega)
          replace hrq := hrq.gr hg216 (fun _ e => by cases e; omega)
          replace hb_g10 := hb_g10.gr hg216 (by intro e; cases e; omega)
          replace hr103 := hr103.gr hg216 (fun _ e => by cases e; omega)
          replace ho103 := Own.gr ho103 hg216 (by first | exact .inl rfl | (right; intro e; first | (have := hq_ho103 _ e; omega) | (have := Own.lt ho103 e; omega) | exact own_blk_ne ho103 hb_g18 (by decide) e))
          replace hb_g15 := hb_g15.gr hg216 (by intro e; cases e; omega)
          replace hb_g16 := hb_g16.gr hg216 (by intro e; cases e; omega)
          replace hb110 := hb110.gr hg216 (fun x e => by cases e; omega) (fun x e e2 => by cases e; have := hDs _ e2; omega)
          replace ho110 := Own.gr ho110 hg216 (by first | exact .inl rfl | (right; intro e; first | (have := hq_ho110 _ e; omega) | (have := Own.lt ho110 e; omega) | exact own_blk_ne ho110 hb_g18 (by decide) e))
          replace hb_g18 := hN216
          refine wl_val (ov_assign rfl) rfl rfl rfl ?_
          refine q_nil ?_
          refine k_then ?_
          refine wc_seq ?_
          refine wc_seq ?_
          refine wc_regionL ?_
          refine wl_val (ov_loadBlk (cs := [(.int .u8 (↑(dnext m cl l).2.2.1.1.toNat : Int)), (.slice A110 (dnext m cl l).2.2.1.2.length c110)]) ag72_2 rfl hb_g18) rfl rfl rfl ?_
          refine wl_val (ov_loadBlk (cs := [(.int .u8 (↑(dnext (m) cl l).2.2.1.1.toNat : Int)), (.slice B103 (dnext (m) cl l).2.2.1.2.length d103)]) ag72_2 rfl hb_g16) rfl rfl rfl ?_
          refine wl_step (or_call0 cl46 rfl rfl (rfequal_any _ _ _ _ _ ((dnext m cl l).2.2.1.1) _ _ (dnext m cl l).2.2.1.2 ((dnext (m) cl l).2.2.1.1) _ _ (dnext (m) cl l).2.2.1.2 (OwnB.rd ho110) (OwnB.rd ho103))) rfl rfl rfl ?_
          rintro v w217 ⟨rfl, he115⟩
          replace hb_g7 := hb_g7.ext he115
          replace hrx := hrx.ext he115
          replace hr := hr.ext he115
          replace hE := hE.tr he115
          replace hrq := hrq.ext he115
          replace hb_g10 := hb_g10.ext he115
          replace hr103 := hr103.ext he115
          replace ho103 := Own.ext ho103 he115
          replace hb_g15 := hb_g15.ext he115
          replace hb_g16 := hb_g16.ext he115
          replace hb110 := hb110.ext he115
          replace ho110 := Own.ext ho110 he115
          replace hb_g18 := hb_g18.ext he115
          have hz_he115 := he115.size
          refine wl_spell (d := 115) rfl (bt (rfl)) ?_
          refine wl_val (ov_not (b := true) rfl) rfl rfl rfl ?_
          refine wl_val (ov_move rfl) rfl rfl rfl ?_
          refine wl_gval (ov_move rfl) rfl rfl rfl rfl rfl ?_
          refine wl_gval (ov_move rfl) rfl rfl rfl rfl rfl ?_
          refine wl_gval (ov_neq rfl rfl) rfl rfl rfl rfl rfl ?_
          refine wl_spell (d := 120) rfl (bf (fun h => h rfl)) ?_
          refine wl_val (ov_pick_f rfl rfl) rfl rfl rfl ?_
          refine q_nil ?_
          refine k_then ?_
          refine wc_cond_f rfl ?_
          refine q_skip ?_
          refine k_then ?_
          refine wc_seq ?_
          refine wc_regionL ?_
          refine wl_val (ov_field0 (off := 1) fo72_1 rfl) rfl rfl rfl ?_
          refine wl_val (ov_loadAt oc26 rfl hb_g18 rfl) rfl rfl rfl ?_
          refine wl_val (ov_len Try.underlying26 rfl) rfl rfl rfl ?_
          refine wl_val (ov_move rfl) rfl rfl rfl ?_
          refine q_nil ?_
          refine k_then ?_
          have hcap_18 := RdB.cap (OwnB.rd ho110)
          have hbl_18 := hb_g18.lt
          refine wc_block ?_
          refine wc_loop (σ := Nat × List UInt8) (fun s => (dnext m cl l).2.2.1.2.length - s.1) (fun s => [(125, .int .i64 (s.1 : Int)), (5, (.pointer (some ⟨g, 0, none⟩))), (7, (.pointer (some ⟨g7, 0, none⟩))), (18, (.pointer (some ⟨g18, 0, none⟩))), (49, (.slice C xs.length cx)), (50, (.int .i64 (↑xs.length : Int))), (51, (.int .i64 (↑k : Int))), (124, (.int .i64 (↑(dnext m cl l).2.2.1.2.length : Int)))]) (fun s w' => OwnB w' w213.heap.size 5 A110 c110 s.2 ∧ Gr w217 w' (blk A110) ∧ s.2.length = (dnext m cl l).2.2.1.2.length ∧ s.1 ≤ (dnext m cl l).2.2.1.2.length ∧ Blk w' g18 72 [(.int .u8 (↑(dnext m cl l).2.2.1.1.toNat : Int)), (.slice A110 (dnext m cl l).2.2.1.2.length c110)]) (0, (dnext m cl l).2.2.1.2) (⟨ho110, (ext_refl _).row _, rfl, Nat.zero_le _, hb_g18⟩) (⟨rfl, rfl, rfl, rfl, rfl, rfl, rfl, rfl, trivial⟩) ?_
          rintro ⟨k_18, l_18⟩ w218 ⟨ho_18, hG_18, hL_18, hk_18, hb_g18⟩
          simp only at hL_18 hk_18
          replace ho_18 : OwnB _ _ _ _ _ l_18 := ho_18
          show WC _ _ _ _ [(125, (.int .i64 (↑k_18 : Int))), (5, (.pointer (some ⟨g, 0, none⟩))), (7, (.pointer (some ⟨g7, 0, none⟩))), (18, (.pointer (some ⟨g18, 0, none⟩))), (49, (.slice C xs.length cx)), (50, (.int .i64 (↑xs.length : Int))), (51, (.int .i64 (↑k : Int))), (124, (.int .i64 (↑(dnext m cl l).2.2.1.2.length : Int)))] _
          refine wc_seq ?_
          refine wc_regionL ?_
          refine wl_val (ov_lss rfl rfl) rfl rfl rfl ?_
          refine q_nil ?_
          refine k_then ?_
          refine wc_seq ?_
          refine wc_cond_d rfl (fun hc10 => ?_) (fun hc10 => ?_)
          · obtain ⟨g_18, hA_18, hg1_18, hgu_18⟩ := Own.addr ho_18 (by omega)
            subst hA_18
            refine q_skip ?_
            refine k_then ?_
            refine wc_seq ?_
            refine wc_block ?_
            refine wc_seq ?_
            refine wc_regionL ?_
            refine wl_val (ov_move rfl) rfl rfl rfl ?_
            refine wl_val (ov_assign rfl) rfl rfl rfl ?_
            refine q_nil ?_
            refine k_then ?_
            refine wc_regionL ?_
            refine wl_val (ov_field0 (off := 1) fo72_1 rfl) rfl rfl rfl ?_
            refine wl_val (ov_loadAt oc26 rfl hb_g18 rfl) rfl rfl rfl ?_
            refine wl_val (ov_move rfl) rfl rfl rfl ?_
            refine wl_val (ov_oindex bt26.s rfl rfl rfl (by omega)) rfl rfl rfl ?_
            refine wl_val (ov_load oc5 rfl (OwnB.cellAt ho_18 (by omega))) rfl rfl rfl ?_
            refine wl_val (ov_add rfl rfl (wu8_succ _)) rfl rfl rfl ?_
            refine wl_val (ov_oindex bt26.s rfl rfl rfl (by omega)) rfl rfl rfl ?_
            refine wl_step0 (or_storeOwn sz5 rfl rfl ho_18 (by omega)) rfl rfl ?_
            rintro _ w219 ⟨ho2_18, hg2_18⟩
            have hz2_18 := hg2_18.size
            replace hb_g18 := hb_g18.gr hg2_18 (by first | (intro e; cases e; have := hq_ho110 _ rfl; omega) | exact own_blk_ne ho_18 hb_g18 (by decide))
            refine q_nil ?_
            refine k_block ?_
            refine k_then ?_
            refine wc_regionL ?_
            refine wl_val (ov_add rfl rfl (wi64 (by omega) (by omega))) rfl rfl rfl ?_
            refine wl_val (ov_move rfl) rfl rfl rfl ?_
            refine q_nil ?_
            refine k_loop ((k_18 + 1, l_18.set k_18 ((l_18.getD k_18 0) + 1))) (by show (dnext m cl l).2.2.1.2.length - (k_18 + 1) < (dnext m cl l).2.2.1.2.length - k_18; omega) (⟨rfl, rfl, rfl, rfl, rfl, rfl, rfl, rfl, trivial⟩) (⟨ho2_18, hG_18.gr hg2_18 (fun g e => .inl e), by show (List.set _ _ _).length = _; rw [List.length_set]; exact hL_18, by show k_18 + 1 ≤ _; omega, hb_g18⟩)
          · have hz_hG_18 := hG_18.size
            replace hb_g7 := hb_g7.gr hG_18 (fun e => by have := hq_ho110 _ e; omega)
            replace hrx := hrx.gr hG_18 (fun g e => by have := hq_ho110 g e; omega)
            replace hr := hr.gr hG_18 (fun g e => by have := hq_ho110 g e; omega)
            replace hE := hE.gr hG_18 (fun g e => by have := hq_ho110 g e; omega)
            replace hrq := hrq.gr hG_18 (fun g e => by have := hq_ho110 g e; omega)
            replace hb_g10 := hb_g10.gr hG_18 (fun e => by have := hq_ho110 _ e; omega)
            replace hr103 := hr103.gr hG_18 (fun g e => by have := hq_ho110 g e; omega)
            replace ho103 := Own.gr ho103 hG_18 (own_apart fun g e g2 e2 => by have := hq_ho103 g e; have := hq_ho110 g2 e2; omega)
            replace hb_g15 := hb_g15.gr hG_18 (fun e => by have := hq_ho110 _ e; omega)
            replace hb_g16 := hb_g16.gr hG_18 (fun e => by have := hq_ho110 _ e; omega)
            replace hb110 := by first | exact hb110.gr hG_18 (fun x e => by have := hq_ho110 x e; omega) (fun x e e2 => by have h1 := hq_ho110 x e; have h2 := hDs x e2; omega)
            refine q_exit ?_
            refine k_thenX ?_
            refine k_thenX ?_
            refine k_blockE ?_
            refine k_block ?_
            refine k_then ?_
            refine wc_seq ?_
            refine wc_draw mixed 18 [(136, eqv (.pointer (some ⟨g, 0, none⟩))), (137, eqv (.int .i64 (↑(dheld (dnext m cl l).1 (dnext m cl l).2.1) : Int))), (138, eqv (.pointer (some ⟨g7, 1, none⟩))), (139, eqv (.slice A103 (dnext (m) cl l).2.1.length c103)), (140, eqv (.int .i64 (↑(dnext (m) cl l).2.1.length : Int))), (141, eqv (.bool false)), (142, eqv (.bool false)), (143, eqv (.pointer (some ⟨g, 0, none⟩))), (144, eqv (.int .i64 (dneed m (dnext m cl l).1 (dnext m cl l).2.1))), (145, eqv (.agg #[(.int .i64 (↑m : Int)), (.slice A103 (dnext (m) cl l).2.1.length c103), (.bool (dnext (m) cl l).1)])), (146, eqv (.int .i64 (dneed (m) (dnext (m) cl l).1 (dnext (m) cl l).2.1))), (147, eqv (.bool false)), (148, eqv (.bool false)), (149, eqv (.bool false)), (150, eqv (.pointer (some ⟨g, 0, none⟩))), (151, eqv (.bool (dnext m cl l).1)), (152, eqv (.pointer (some ⟨g7, 2, none⟩))), (153, eqv (.bool (dnext (m) cl l).1))] [[], [0], [], [2], [3], [1, 4], [5], [6], [6, 7], [6], [6, 9], [6, 8, 10], [6, 11], [12], [13], [13, 14], [13], [13, 16]] _ [] [] (fun _ _ h => h) trivial (by kernel_rfl) rfl ⟨⟨stb_eqv _, fun _ he => by cases he⟩, ⟨stb_eqv _, fun _ he => by cases he⟩, ⟨stb_eqv _, fun _ he => by cases he⟩, ⟨stb_eqv _, fun _ he => by cases he⟩, ⟨stb_eqv _, fun _ he => by cases he⟩, ⟨stb_eqv _, fun _ he => by cases he⟩, ⟨stb_eqv _, fun _ he => by cases he⟩, ⟨stb_eqv _, fun _ he => by cases he⟩, ⟨stb_eqv _, fun _ he => by cases he⟩, ⟨stb_eqv _, fun _ he => by cases he⟩, ⟨stb_eqv _, fun _ he => by cases he⟩, ⟨stb_eqv _, fun _ he => by cases he⟩, ⟨stb_eqv _, fun _ he => by cases he⟩, ⟨stb_eqv _, fun _ he => by cases he⟩, ⟨stb_eqv _, fun _ he => by cases he⟩, ⟨stb_eqv _, fun _ he => by cases he⟩, ⟨stb_eqv _, fun _ he => by cases he⟩, ⟨stb_eqv _, fun _ he => by cases he⟩, trivial⟩ ⟨?_, ?_, ?_, ?_, ?_, ?_, ?_, ?_, ?_, ?_, ?_, ?_, ?_, ?_, ?_, ?_, ?_, ?_, trivial⟩ ?_
            · intro wd hxE
              replace hb_g7 := hb_g7.ext hxE
              replace hrx := hrx.ext hxE
              replace hr := hr.ext hxE
              replace hE := hE.tr hxE
              replace hrq := hrq.ext hxE
              replace hb_g10 := hb_g10.ext hxE
              replace hr103 := hr103.ext hxE
              replace ho103 := Own.ext ho103 hxE
              replace hb_g15 := hb_g15.ext hxE
              replace hb_g16 := hb_g16.ext hxE
              replace hb110 := hb110.ext hxE
              replace hb_g18 := hb_g18.ext hxE
              have hz_hxE := hxE.size
              show OpG _ _ _ _ _ _
              exact og_plain rfl (ox_val (ov_move rfl))
            · intro wd hxE
              replace hb_g7 := hb_g7.ext hxE
              replace hrx := hrx.ext hxE
              replace hr := hr.ext hxE
              replace hE := hE.tr hxE
              replace hrq := hrq.ext hxE
              replace hb_g10 := hb_g10.ext hxE
              replace hr103 := hr103.ext hxE
              replace ho103 := Own.ext ho103 hxE
              replace hb_g15 := hb_g15.ext hxE
              replace hb_g16 := hb_g16.ext hxE
              replace hb110 := hb110.ext hxE
              replace hb_g18 := hb_g18.ext hxE
              have hz_hxE := hxE.size
              rintro _ rfl
              show OpG _ _ _ _ _ _
              refine og_plain rfl (OpRun.mono (or_call0 cl42 rfl rfl (dheld_ok _ lo g D m (dnext m cl l).1 (dnext m cl l).2.1 hb110 (by first | omega | (simp; done)))) ?_)
              rintro v w219 ⟨rfl, he137⟩
              replace hb_g7 := hb_g7.ext he137
              replace hrx := hrx.ext he137
              replace hr := hr.ext he137
              replace hE := hE.tr he137
              replace hrq := hrq.ext he137
              replace hb_g10 := hb_g10.ext he137
              replace hr103 := hr103.ext he137
              replace ho103 := Own.ext ho103 he137
              replace hb_g15 := hb_g15.ext he137
              replace hb_g16 := hb_g16.ext he137
              replace hb110 := hb110.ext he137
              replace hb_g18 := hb_g18.ext he137
              have hz_he137 := he137.size
              exact ⟨rfl, he137⟩
            · intro wd hxE
              replace hb_g7 := hb_g7.ext hxE
              replace hrx := hrx.ext hxE
              replace hr := hr.ext hxE
              replace hE := hE.tr hxE
              replace hrq := hrq.ext hxE
              replace hb_g10 := hb_g10.ext hxE
              replace hr103 := hr103.ext hxE
              replace ho103 := Own.ext ho103 hxE
              replace hb_g15 := hb_g15.ext hxE
              replace hb_g16 := hb_g16.ext hxE
              replace hb110 := hb110.ext hxE
              replace hb_g18 := hb_g18.ext hxE
              have hz_hxE := hxE.size
              show OpG _ _ _ _ _ _
              exact og_plain rfl (ox_val (ov_field0 (off := 1) fo57_1 rfl))
            · intro wd hxE
              replace hb_g7 := hb_g7.ext hxE
              replace hrx := hrx.ext hxE
              replace hr := hr.ext hxE
              replace hE := hE.tr hxE
              replace hrq := hrq.ext hxE
              replace hb_g10 := hb_g10.ext hxE
              replace hr103 := hr103.ext hxE
              replace ho103 := Own.ext ho103 hxE
              replace hb_g15 := hb_g15.ext hxE
              replace hb_g16 := hb_g16.ext hxE
              replace hb110 := hb110.ext hxE
              replace hb_g18 := hb_g18.ext hxE
              have hz_hxE := hxE.size
              rintro _ rfl
              show OpG _ _ _ _ _ _
              exact og_plain rfl (ox_val (ov_loadAt oc26 rfl hb_g7 rfl))
            · intro wd hxE
              replace hb_g7 := hb_g7.ext hxE
              replace hrx := hrx.ext hxE
              replace hr := hr.ext hxE
              replace hE := hE.tr hxE
              replace hrq := hrq.ext hxE
              replace hb_g10 := hb_g10.ext hxE
              replace hr103 := hr103.ext hxE
              replace ho103 := Own.ext ho103 hxE
              replace hb_g15 := hb_g15.ext hxE
              replace hb_g16 := hb_g16.ext hxE
              replace hb110 := hb110.ext hxE
              replace hb_g18 := hb_g18.ext hxE
              have hz_hxE := hxE.size
              rintro _ rfl
              show OpG _ _ _ _ _ _
              exact og_plain rfl (ox_val (ov_len Try.underlying26 rfl))
            · intro wd hxE
              replace hb_g7 := hb_g7.ext hxE
              replace hrx := hrx.ext hxE
              replace hr := hr.ext hxE
              replace hE := hE.tr hxE
              replace hrq := hrq.ext hxE
              replace hb_g10 := hb_g10.ext hxE
              replace hr103 := hr103.ext hxE
              replace ho103 := Own.ext ho103 hxE
              replace hb_g15 := hb_g15.ext hxE
              replace hb_g16 := hb_g16.ext hxE
              replace hb110 := hb110.ext hxE
              replace hb_g18 := hb_g18.ext hxE
              have hz_hxE := hxE.size
              rintro _ rfl
              rintro _ rfl
              show OpG _ _ _ _ _ _
              exact og_plain rfl (ox_F (fun h => h (dheld_len (dnext_cl hcl))) (ov_neq rfl rfl))
            · intro wd hxE
              replace hb_g7 := hb_g7.ext hxE
              replace hrx := hrx.ext hxE
              replace hr := hr.ext hxE
              replace hE := hE.tr hxE
              replace hrq := hrq.ext hxE
              replace hb_g10 := hb_g10.ext hxE
              replace hr103 := hr103.ext hxE
              replace ho103 := Own.ext ho103 hxE
              replace hb_g15 := hb_g15.ext hxE
              replace hb_g16 := hb_g16.ext hxE
              replace hb110 := hb110.ext hxE
              replace hb_g18 := hb_g18.ext hxE
              have hz_hxE := hxE.size
              rintro _ rfl
              show OpG _ _ _ _ _ _
              exact og_plain rfl (ox_val (ov_move rfl))
            · intro wd hxE
              replace hb_g7 := hb_g7.ext hxE
              replace hrx := hrx.ext hxE
              replace hr := hr.ext hxE
              replace hE := hE.tr hxE
              replace hrq := hrq.ext hxE
              replace hb_g10 := hb_g10.ext hxE
              replace hr103 := hr103.ext hxE
              replace ho103 := Own.ext ho103 hxE
              replace hb_g15 := hb_g15.ext hxE
              replace hb_g16 := hb_g16.ext hxE
              replace hb110 := hb110.ext hxE
              replace hb_g18 := hb_g18.ext hxE
              have hz_hxE := hxE.size
              rintro _ rfl
              show OpG _ _ _ _ _ _
              exact og_on rfl rfl rfl (ox_val (ov_move rfl))
            · intro wd hxE
              replace hb_g7 := hb_g7.ext hxE
              replace hrx := hrx.ext hxE
              replace hr := hr.ext hxE
              replace hE := hE.tr hxE
              replace hrq := hrq.ext hxE
              replace hb_g10 := hb_g10.ext hxE
              replace hr103 := hr103.ext hxE
              replace ho103 := Own.ext ho103 hxE
              replace hb_g15 := hb_g15.ext hxE
              replace hb_g16 := hb_g16.ext hxE
              replace hb110 := hb110.ext hxE
              replace hb_g18 := hb_g18.ext hxE
              have hz_hxE := hxE.size
              rintro _ rfl
              rintro _ rfl
              show OpG _ _ _ _ _ _
              refine og_on rfl rfl rfl (OpRun.mono (or_call0 cl39 rfl rfl (dneed_ok _ lo g D m (dnext m cl l).1 (dnext m cl l).2.1 hb110 (by first | omega | (simp; done)))) ?_)
              rintro v w219 ⟨rfl, he144⟩
              replace hb_g7 := hb_g7.ext he144
              replace hrx := hrx.ext he144
              replace hr := hr.ext he144
              replace hE := hE.tr he144
              replace hrq := hrq.ext he144
              replace hb_g10 := hb_g10.ext he144
              replace hr103 := hr103.ext he144
              replace ho103 := Own.ext ho103 he144
              replace hb_g15 := hb_g15.ext he144
              replace hb_g16 := hb_g16.ext he144
              replace hb110 := hb110.ext he144
              replace hb_g18 := hb_g18.ext he144
              have hz_he144 := he144.size
              exact ⟨rfl, he144⟩
            · intro wd hxE
              replace hb_g7 := hb_g7.ext hxE
              replace hrx := hrx.ext hxE
              replace hr := hr.ext hxE
              replace hE := hE.tr hxE
              replace hrq := hrq.ext hxE
              replace hb_g10 := hb_g10.ext hxE
              replace hr103 := hr103.ext hxE
              replace ho103 := Own.ext ho103 hxE
              replace hb_g15 := hb_g15.ext hxE
              replace hb_g16 := hb_g16.ext hxE
              replace hb110 := hb110.ext hxE
              replace hb_g18 := hb_g18.ext hxE
              have hz_hxE := hxE.size
              rintro _ rfl
              show OpG _ _ _ _ _ _
              exact og_on rfl rfl rfl (ox_val (ov_loadBlk (cs := [(.int .i64 (↑m : Int)), (.slice A103 (dnext (m) cl l).2.1.length c103), (.bool (dnext (m) cl l).1)]) ag57_3 rfl hb_g7))
            · intro wd hxE
              replace hb_g7 := hb_g7.ext hxE
              replace hrx := hrx.ext hxE
              replace hr := hr.ext hxE
              replace hE := hE.tr hxE
              replace hrq := hrq.ext hxE
              replace hb_g10 := hb_g10.ext hxE
              replace hr103 := hr103.ext hxE
              replace ho103 := Own.ext ho103 hxE
              replace hb_g15 := hb_g15.ext hxE
              replace hb_g16 := hb_g16.ext hxE
              replace hb110 := hb110.ext hxE
              replace hb_g18 := hb_g18.ext hxE
              have hz_hxE := hxE.size
              rintro _ rfl
              rintro _ rfl
              show OpG _ _ _ _ _ _
              refine og_on rfl rfl rfl (OpRun.mono (or_call0 cl48 rfl rfl (rneed06_any _ _ _ (m) _ _ (dnext (m) cl l).2.1 (dnext (m) cl l).1 hr103 (by omega) (by first | omega | (simp; done)) (by omega))) ?_)
              rintro v w219 ⟨rfl, he146⟩
              replace hb_g7 := hb_g7.ext he146
              replace hrx := hrx.ext he146
              replace hr := hr.ext he146
              replace hE := hE.tr he146
              replace hrq := hrq.ext he146
              replace hb_g10 := hb_g10.ext he146
              replace hr103 := hr103.ext he146
              replace ho103 := Own.ext ho103 he146
              replace hb_g15 := hb_g15.ext he146
              replace hb_g16 := hb_g16.ext he146
              replace hb110 := hb110.ext he146
              replace hb_g18 := hb_g18.ext he146
              have hz_he146 := he146.size
              exact ⟨rfl, he146⟩
            · intro wd hxE
              replace hb_g7 := hb_g7.ext hxE
              replace hrx := hrx.ext hxE
              replace hr := hr.ext hxE
              replace hE := hE.tr hxE
              replace hrq := hrq.ext hxE
              replace hb_g10 := hb_g10.ext hxE
              replace hr103 := hr103.ext hxE
              replace ho103 := Own.ext ho103 hxE
              replace hb_g15 := hb_g15.ext hxE
              replace hb_g16 := hb_g16.ext hxE
              replace hb110 := hb110.ext hxE
              replace hb_g18 := hb_g18.ext hxE
              have hz_hxE := hxE.size
              rintro _ rfl
              rintro _ rfl
              rintro _ rfl
              show OpG _ _ _ _ _ _
              exact og_on rfl rfl rfl (ox_F (fun h => h rfl) (ov_neq rfl rfl))
            · intro wd hxE
              replace hb_g7 := hb_g7.ext hxE
              replace hrx := hrx.ext hxE
              replace hr := hr.ext hxE
              replace hE := hE.tr hxE
              replace hrq := hrq.ext hxE
              replace hb_g10 := hb_g10.ext hxE
              replace hr103 := hr103.ext hxE
              replace ho103 := Own.ext ho103 hxE
              replace hb_g15 := hb_g15.ext hxE
              replace hb_g16 := hb_g16.ext hxE
              replace hb110 := hb110.ext hxE
              replace hb_g18 := hb_g18.ext hxE
              have hz_hxE := hxE.size
              rintro _ rfl
              rintro _ rfl
              show OpG _ _ _ _ _ _
              exact og_plain rfl (ox_val (ov_pick_f rfl rfl))
            · intro wd hxE
              replace hb_g7 := hb_g7.ext hxE
              replace hrx := hrx.ext hxE
              replace hr := hr.ext hxE
              replace hE := hE.tr hxE
              replace hrq := hrq.ext hxE
              replace hb_g10 := hb_g10.ext hxE
              replace hr103 := hr103.ext hxE
              replace ho103 := Own.ext ho103 hxE
              replace hb_g15 := hb_g15.ext hxE
              replace hb_g16 := hb_g16.ext hxE
              replace hb110 := hb110.ext hxE
              replace hb_g18 := hb_g18.ext hxE
              have hz_hxE := hxE.size
              rintro _ rfl
              show OpG _ _ _ _ _ _
              exact og_plain rfl (ox_val (ov_move rfl))
            · intro wd hxE
              replace hb_g7 := hb_g7.ext hxE
              replace hrx := hrx.ext hxE
              replace hr := hr.ext hxE
              replace hE := hE.tr hxE
              replace hrq := hrq.ext hxE
              replace hb_g10 := hb_g10.ext hxE
              replace hr103 := hr103.ext hxE
              replace ho103 := Own.ext ho103 hxE
              replace hb_g15 := hb_g15.ext hxE
              replace hb_g16 := hb_g16.ext hxE
              replace hb110 := hb110.ext hxE
              replace hb_g18 := hb_g18.ext hxE
              have hz_hxE := hxE.size
              rintro _ rfl
              show OpG _ _ _ _ _ _
              exact og_on rfl rfl rfl (ox_val (ov_move rfl))
            · intro wd hxE
              replace hb_g7 := hb_g7.ext hxE
              replace hrx := hrx.ext hxE
              replace hr := hr.ext hxE
              replace hE := hE.tr hxE
              replace hrq := hrq.ext hxE
              replace hb_g10 := hb_g10.ext hxE
              replace hr103 := hr103.ext hxE
              replace ho103 := Own.ext ho103 hxE
              replace hb_g15 := hb_g15.ext hxE
              replace hb_g16 := hb_g16.ext hxE
              replace hb110 := hb110.ext hxE
              replace hb_g18 := hb_g18.ext hxE
              have hz_hxE := hxE.size
              rintro _ rfl
              rintro _ rfl
              show OpG _ _ _ _ _ _
              refine og_on rfl rfl rfl (OpRun.mono (or_call0 cl49 rfl rfl (dclosed_ok _ lo g D m (dnext m cl l).1 (dnext m cl l).2.1 hb110 (by first | omega | (simp; done)))) ?_)
              rintro v w219 ⟨rfl, he151⟩
              replace hb_g7 := hb_g7.ext he151
              replace hrx := hrx.ext he151
              replace hr := hr.ext he151
              replace hE := hE.tr he151
              replace hrq := hrq.ext he151
              replace hb_g10 := hb_g10.ext he151
              replace hr103 := hr103.ext he151
              replace ho103 := Own.ext ho103 he151
              replace hb_g15 := hb_g15.ext he151
              replace hb_g16 := hb_g16.ext he151
              replace hb110 := hb110.ext he151
              replace hb_g18 := hb_g18.ext he151
              have hz_he151 := he151.size
              exact ⟨rfl, he151⟩
            · intro wd hxE
              replace hb_g7 := hb_g7.ext hxE
              replace hrx := hrx.ext hxE
              replace hr := hr.ext hxE
              replace hE := hE.tr hxE
              replace hrq := hrq.ext hxE
              replace hb_g10 := hb_g10.ext hxE
              replace hr103 := hr103.ext hxE
              replace ho103 := Own.ext ho103 hxE
              replace hb_g15 := hb_g15.ext hxE
              replace hb_g16 := hb_g16.ext hxE
              replace hb110 := hb110.ext hxE
              replace hb_g18 := hb_g18.ext hxE
              have hz_hxE := hxE.size
              rintro _ rfl
              show OpG _ _ _ _ _ _
              exact og_on rfl rfl rfl (ox_val (ov_field0 (off := 2) fo57_2 rfl))
            · intro wd hxE
              replace hb_g7 := hb_g7.ext hxE
              replace hrx := hrx.ext hxE
              replace hr := hr.ext hxE
              replace hE := hE.tr hxE
              replace hrq := hrq.ext hxE
              replace hb_g10 := hb_g10.ext hxE
              replace hr103 := hr103.ext hxE
              replace ho103 := Own.ext ho103 hxE
              replace hb_g15 := hb_g15.ext hxE
              replace hb_g16 := hb_g16.ext hxE
              replace hb110 := hb110.ext hxE
              replace hb_g18 := hb_g18.ext hxE
              have hz_hxE := hxE.size
              rintro _ rfl
              rintro _ rfl
              show OpG _ _ _ _ _ _
              exact og_on rfl rfl rfl (ox_val (ov_loadAt oc4 rfl hb_g7 rfl))
            · intro wf42 hf42
              replace hb_g7 := hb_g7.ext hf42
              replace hrx := hrx.ext hf42
              replace hr := hr.ext hf42
              replace hE := hE.tr hf42
              replace hrq := hrq.ext hf42
              replace hb_g10 := hb_g10.ext hf42
              replace hr103 := hr103.ext hf42
              replace ho103 := Own.ext ho103 hf42
              replace hb_g15 := hb_g15.ext hf42
              replace hb_g16 := hb_g16.ext hf42
              replace hb110 := hb110.ext hf42
              replace hb_g18 := hb_g18.ext hf42
              have hz_hf42 := hf42.size
              rintro _ rfl
              rintro _ rfl
              rintro _ rfl
              rintro _ rfl
              rintro _ rfl
              rintro _ rfl
              rintro _ rfl
              rintro _ rfl
              rintro _ rfl
              rintro _ rfl
              rintro _ rfl
              rintro _ rfl
              rintro _ rfl
              rintro _ rfl
              rintro _ rfl
              rintro _ rfl
              rintro _ rfl
              rintro _ rfl
              show WL _ _ _ [_, _] _ _ _
              refine wl_gval (ov_neb Try.underlying4 rfl rfl) rfl rfl rfl rfl rfl ?_
              refine wl_spell (d := 154) rfl (v' := (.bool false)) (by simp) ?_
              refine wl_val (ov_pick_f rfl rfl) rfl rfl rfl ?_
              refine q_nil ?_
              refine k_then ?_
              refine wc_cond_f rfl ?_
              refine q_skip ?_
              refine k_block ?_
              refine k_then ?_
              refine wc_regionL ?_
              refine wl_val (ov_add rfl rfl (wi64 (by omega) (by omega))) rfl rfl rfl ?_
              refine wl_val (ov_move rfl) rfl rfl rfl ?_
              refine q_nil ?_
              refine k_loop ((k + 1, lo, lor, hir, g, D, (dnext m cl l).1, (dnext m cl l).2.1, A103, c103)) (by show xs.length - (k + 1) < xs.length - k; omega) (⟨rfl, rfl, rfl, rfl, rfl, trivial⟩) (⟨by show k + 1 ≤ _; omega, ⟨hb110, hr103, by first | omega | (dsimp only; omega), by first | omega | (dsimp only; omega), by first | omega | (dsimp only; omega), fun x e => by have := hDs x e; first | omega | (dsimp only; omega), dnext_cl hcl, by first | omega | (dsimp only; omega), fun x e => by have := hDs x e; omega⟩, by show (dnext m cl l).2.1.length ≤ 300 * (k + 1); omega, hb_g7, by first | omega | (dsimp only; omega), fun x e => by have := hDs x e; omega, by first | omega | (dsimp only; omega), hrx, hE⟩)
        · refine wc_seq ?_
          refine wc_regionL ?_
          refine wl_val (ov_move rfl) rfl rfl rfl ?_
          refine wl_step (or_call0 cl47 rfl rfl (dcopy_ok _ lo g D m cl l hdec (by first | omega | (simp; done)))) rfl rfl rfl ?_
          rintro v w208 ⟨gc58, D58, rfl, hb58, he58, hg158, hD58⟩
          replace hb_g7 := hb_g7.ext he58
          replace hrx := hrx.ext he58
          replace hdec := hdec.ext he58
          replace hr := hr.ext he58
          replace hE := hE.tr he58
          replace hrq := hrq.ext he58
          replace hb_g10 := hb_g10.ext he58
          have hz_he58 := he58.size
          have hDs58 : ∀ x, D58 = some x → w7.heap.size ≤ x ∧ x < w208.heap.size := fun x e => ⟨hD58 x e, (hb58.lt.2 x e).2⟩
          have hzb58 := hb58.lt.1
          refine wl_val (ov_assign rfl) rfl rfl rfl ?_
          refine q_nil ?_
          refine k_then ?_
          refine wc_seq ?_
          refine wc_seq ?_
          refine wc_regionL ?_
          refine wl_val (ov_move rfl) rfl rfl rfl ?_
          refine wl_val (ov_nilptr Try.underlying68 rfl) rfl rfl rfl ?_
          refine q_nil ?_
          refine k_then ?_
          refine wc_cond_f rfl ?_
          refine q_skip ?_
          refine k_then ?_
          refine wc_seq ?_
          refine wc_regionL ?_
          refine wl_val (ov_move rfl) rfl rfl rfl ?_
          refine wl_step (or_buildBytes (l := [1, 2, 255, 255, 255, 127]) bt26 (os := [.const (.int .u8 1), .const (.int .u8 2), .const (.int .u8 255), .const (.int .u8 255), .const (.int .u8 255), .const (.int .u8 127)]) rfl rfl rfl (by decide)) rfl rfl rfl ?_
          rintro v w209 ⟨A62, c62, rfl, ho62, he62⟩
          replace hb_g7 := hb_g7.ext he62
          replace hrx := hrx.ext he62
          replace hdec := hdec.ext he62
          replace hr := hr.ext he62
          replace hE := hE.tr he62
          replace hrq := hrq.ext he62
          replace hb_g10 := hb_g10.ext he62
          replace hb58 := hb58.ext he62
          have hz_he62 := he62.size
          have hq_ho62 := fun g e => Own.lt ho62 (g := g) e
          refine wl_step (or_call0 cl38 rfl rfl (dfeed_ok _ lo g D m cl l hdec (by first | omega | (simp; done)) _ _ _ _ [1, 2, 255, 255, 255, 127] (OwnB.rd ho62) (by omega) (fun x e => by have := hDs x e; omega) (by omega) (by first | omega | (simp; done)))) rfl rfl rfl ?_
          rintro v w210 ⟨rfl, ⟨D63, hb63, hN63⟩, hC63⟩
          have hDa63 : ∀ x, D = some x → (w.heap.size ≤ x ∧ x ≠ g7 ∧ (x < lor ∨ hir ≤ x) ∧ x < wq.heap.size) ∧ x < w209.heap.size := fun x e => ⟨hDs x e, (hdec.lt.2 x e).2⟩
          have hz_hC63 := hC63.size
          replace hb_g7 := hC63.bk hb_g7 (by omega) (fun e2 => by have := hDa63 _ e2; omega)
          replace hrx := hC63.rd hrx (by omega) (fun x e => by have := hDa63 x e; omega)
          replace hr := hC63.rd hr (by omega) (fun x e => by have := hDa63 x e; omega)
          replace hE := hC63.e0 hE (by omega) (fun x e => by have := hDa63 x e; omega)
          replace hrq := hC63.rd hrq (by omega) (fun x e => by have := hDa63 x e; omega)
          replace hb_g10 := hC63.bk hb_g10 (by omega) (fun e2 => by have := hDa63 _ e2; omega)
          replace hb58 := hb58.ch hC63 (by omega) (fun e2 => by have := hDa63 _ e2; omega) (fun e => by have := hDs58 _ e; omega) (fun x e e2 => by have h1 := hDs58 x e; have h2 := hDa63 x e2; omega)
          replace ho62 := hC63.own ho62 (fun x e => by first | exact ⟨by have := hq_ho62 x e; omega, fun e2 => by have h1 := hq_ho62 x e; have h2 := hDa63 x e2; omega⟩)
          have hDs63 : ∀ x, D63 = some x → ((w.heap.size ≤ x ∧ x ≠ g7 ∧ (x < lor ∨ hir ≤ x) ∧ x < wq.heap.size) ∨ w209.heap.size ≤ x) ∧ x < w210.heap.size := fun x e => ⟨(hN63 x e).imp (fun h => hDs x h) id, (hb63.lt.2 x e).2⟩
          have hzb63 := hb63.lt.1
          have hcp63 := hb63.cap
          have hf63 : (dfeed cl l [1, 2, 255, 255, 255, 127]).length ≤ l.length + 6 := dfeed_len _ _ _
          refine q_nil ?_
          refine k_then ?_
          refine wc_seq ?_
          refine wc_regionL ?_
          refine wl_val (ov_move rfl) rfl rfl rfl ?_
          refine wl_step (or_call0 cl37 rfl rfl (dnext_ok _ lo g D63 m cl (dfeed cl l [1, 2, 255, 255, 255, 127]) hb63 (by first | omega | (simp; done)))) rfl rfl rfl ?_
          rintro v w211 ⟨A65, c65, rfl, ho65, hb65, hC65⟩
          have hDa65 : ∀ x, D63 = some x → (((w.heap.size ≤ x ∧ x ≠ g7 ∧ (x < lor ∨ hir ≤ x) ∧ x < wq.heap.size) ∨ w209.heap.size ≤ x) ∧ x < w210.heap.size) ∧ x < w210.heap.size := fun x e => ⟨hDs63 x e, (hb63.lt.2 x e).2⟩
          have hz_hC65 := hC65.size
          replace hb_g7 := hC65.bk hb_g7 (by omega) (fun e2 => by have := hDa65 _ e2; omega)
          replace hrx := hC65.rd hrx (by omega) (fun x e => by have := hDa65 x e; omega)
          replace hr := hC65.rd hr (by omega) (fun x e => by have := hDa65 x e; omega)
          replace hE := hC65.e0 hE (by omega) (fun x e => by have := hDa65 x e; omega)
          replace hrq := hC65.rd hrq (by omega) (fun x e => by have := hDa65 x e; omega)
          replace hb_g10 := hC65.bk hb_g10 (by omega) (fun e2 => by have := hDa65 _ e2; omega)
          replace hb58 := hb58.ch hC65 (by omega) (fun e2 => by have := hDa65 _ e2; omega) (fun e => by have := hDs58 _ e; omega) (fun x e e2 => by have h1 := hDs58 x e; have h2 := hDa65 x e2; omega)
          replace ho62 := hC65.own ho62 (fun x e => by first | exact ⟨by have := hq_ho62 x e; omega, fun e2 => by have h1 := hq_ho62 x e; have h2 := hDa65 x e2; omega⟩)
          have hzb65 := hb65.lt.1
          have hcp65 := hb65.cap
          have hq_ho65 := fun g e => Own.lt ho65 (g := g) e
          have hf65 := dnext_short m cl (dfeed cl l [1, 2, 255, 255, 255, 127])
          refine q_nil ?_
          refine k_then ?_
          refine wc_seq ?_
          refine wc_regionL ?_
          refine wl_val (ov_move rfl) rfl rfl rfl ?_
          refine wl_step (or_call0 cl37 rfl rfl (dnext_ok _ lo g D63 m (dnext m cl (dfeed cl l [1, 2, 255, 255, 255, 127])).1 (dnext m cl (dfeed cl l [1, 2, 255, 255, 255, 127])).2.1 hb65 (by first | omega | (simp; done)))) rfl rfl rfl ?_
          rintro v w212 ⟨A67, c67, rfl, ho67, hb67, hC67⟩
          have hDa67 : ∀ x, D63 = some x → (((w.heap.size ≤ x ∧ x ≠ g7 ∧ (x < lor ∨ hir ≤ x) ∧ x < wq.heap.size) ∨ w209.heap.size ≤ x) ∧ x < w210.heap.size) ∧ x < w211.heap.size := fun x e => ⟨hDs63 x e, (hb65.lt.2 x e).2⟩
          have hz_hC67 := hC67.size
          replace hb_g7 := hC67.bk hb_g7 (by omega) (fun e2 => by have := hDa67 _ e2; omega)
          replace hrx := hC67.rd hrx (by omega) (fun x e => by have := hDa67 x e; omega)
          replace hr := hC67.rd hr (by omega) (fun x e => by have := hDa67 x e; omega)
          replace hE := hC67.e0 hE (by omega) (fun x e => by have := hDa67 x e; omega)
          replace hrq := hC67.rd hrq (by omega) (fun x e => by have := hDa67 x e; omega)
          replace hb_g10 := hC67.bk hb_g10 (by omega) (fun e2 => by have := hDa67 _ e2; omega)
          replace hb58 := hb58.ch hC67 (by omega) (fun e2 => by have := hDa67 _ e2; omega) (fun e => by have := hDs58 _ e; omega) (fun x e e2 => by have h1 := hDs58 x e; have h2 := hDa67 x e2; omega)
          replace ho62 := hC67.own ho62 (fun x e => by first | exact ⟨by have := hq_ho62 x e; omega, fun e2 => by have h1 := hq_ho62 x e; have h2 := hDa67 x e2; omega⟩)
          replace ho65 := hC67.own ho65 (fun x e => by first | exact ⟨by have := hq_ho65 x e; omega, fun e2 => by have h1 := hq_ho65 x e; have h2 := hDa67 x e2; omega⟩)
          have hzb67 := hb67.lt.1
          have hcp67 := hb67.cap
          have hq_ho67 := fun g e => Own.lt ho67 (g := g) e
          refine q_nil ?_
          refine k_then ?_
          refine wc_regionL ?_
          refine wl_val (ov_move rfl) rfl rfl rfl ?_
          refine wl_val (ov_assign rfl) rfl rfl rfl ?_
          refine q_nil ?_
          refine k_block ?_
          refine k_then ?_
          refine wc_seq ?_
          refine wc_draw mixed 18 [(136, eqv (.pointer (some ⟨gc58, 0, none⟩))), (137, eqv (.int .i64 (↑(dheld cl l) : Int))), (138, eqv (.pointer (some ⟨g7, 1, none⟩))), (139, eqv (.slice A l.length c)), (140, eqv (.int .i64 (↑l.length : Int))), (141, eqv (.bool false)), (142, eqv (.bool false)), (143, eqv (.pointer (some ⟨gc58, 0, none⟩))), (144, eqv (.int .i64 (dneed m cl l))), (145, eqv (.agg #[(.int .i64 (↑m : Int)), (.slice A l.length c), (.bool cl)])), (146, eqv (.int .i64 (dneed (m) cl l))), (147, eqv (.bool false)), (148, eqv (.bool false)), (149, eqv (.bool false)), (150, eqv (.pointer (some ⟨gc58, 0, none⟩))), (151, eqv (.bool cl)), (152, eqv (.pointer (some ⟨g7, 2, none⟩))), (153, eqv (.bool cl))] [[], [0], [], [2], [3], [1, 4], [5], [6], [6, 7], [6], [6, 9], [6, 8, 10], [6, 11], [12], [13], [13, 14], [13], [13, 16]] _ [] [] (fun _ _ h => h) trivial (by kernel_rfl) rfl ⟨⟨stb_eqv _, fun _ he => by cases he⟩, ⟨stb_eqv _, fun _ he => by cases he⟩, ⟨stb_eqv _, fun _ he => by cases he⟩, ⟨stb_eqv _, fun _ he => by cases he⟩, ⟨stb_eqv _, fun _ he => by cases he⟩, ⟨stb_eqv _, fun _ he => by cases he⟩, ⟨stb_eqv _, fun _ he => by cases he⟩, ⟨stb_eqv _, fun _ he => by cases he⟩, ⟨stb_eqv _, fun _ he => by cases he⟩, ⟨stb_eqv _, fun _ he => by cases he⟩, ⟨stb_eqv _, fun _ he => by cases he⟩, ⟨stb_eqv _, fun _ he => by cases he⟩, ⟨stb_eqv _, fun _ he => by cases he⟩, ⟨stb_eqv _, fun _ he => by cases he⟩, ⟨stb_eqv _, fun _ he => by cases he⟩, ⟨stb_eqv _, fun _ he => by cases he⟩, ⟨stb_eqv _, fun _ he => by cases he⟩, ⟨stb_eqv _, fun _ he => by cases he⟩, trivial⟩ ⟨?_, ?_, ?_, ?_, ?_, ?_, ?_, ?_, ?_, ?_, ?_, ?_, ?_, ?_, ?_, ?_, ?_, ?_, trivial⟩ ?_
          · intro wd hxE
            replace hb_g7 := hb_g7.ext hxE
            replace hrx := hrx.ext hxE
            replace hr := hr.ext hxE
            replace hE := hE.tr hxE
            replace hrq := hrq.ext hxE
            replace hb_g10 := hb_g10.ext hxE
            replace hb58 := hb58.ext hxE
            replace ho62 := Own.ext ho62 hxE
            replace ho65 := Own.ext ho65 hxE
            replace hb67 := hb67.ext hxE
            replace ho67 := Own.ext ho67 hxE
            have hz_hxE := hxE.size
            show OpG _ _ _ _ _ _
            exact og_plain rfl (ox_val (ov_move rfl))
          · intro wd hxE
            replace hb_g7 := hb_g7.ext hxE
            replace hrx := hrx.ext hxE
            replace hr := hr.ext hxE
            replace hE := hE.tr hxE
            replace hrq := hrq.ext hxE
            replace hb_g10 := hb_g10.ext hxE
            replace hb58 := hb58.ext hxE
            replace ho62 := Own.ext ho62 hxE
            replace ho65 := Own.ext ho65 hxE
            replace hb67 := hb67.ext hxE
            replace ho67 := Own.ext ho67 hxE
            have hz_hxE := hxE.size
            rintro _ rfl
            show OpG _ _ _ _ _ _
            refine og_plain rfl (OpRun.mono (or_call0 cl42 rfl rfl (dheld_ok _ w7.heap.size gc58 D58 m cl l hb58 (by first | omega | (simp; done)))) ?_)
            rintro v w213 ⟨rfl, he137⟩
            replace hb_g7 := hb_g7.ext he137
            replace hrx := hrx.ext he137
            replace hr := hr.ext he137
            replace hE := hE.tr he137
            replace hrq := hrq.ext he137
            replace hb_g10 := hb_g10.ext he137
            replace hb58 := hb58.ext he137
            replace ho62 := Own.ext ho62 he137
            replace ho65 := Own.ext ho65 he137
            replace hb67 := hb67.ext he137
            replace ho67 := Own.ext ho67 he137
            have hz_he137 := he137.size
            exact ⟨rfl, he137⟩
          · intro wd hxE
            replace hb_g7 := hb_g7.ext hxE
            replace hrx := hrx.ext hxE
            replace hr := hr.ext hxE
            replace hE := hE.tr hxE
            replace hrq := hrq.ext hxE
            replace hb_g10 := hb_g10.ext hxE
            replace hb58 := hb58.ext hxE
            replace ho62 := Own.ext ho62 hxE
            replace ho65 := Own.ext ho65 hxE
            replace hb67 := hb67.ext hxE
            replace ho67 := Own.ext ho67 hxE
            have hz_hxE := hxE.size
            show OpG _ _ _ _ _ _
            exact og_plain rfl (ox_val (ov_field0 (off := 1) fo57_1 rfl))
          · intro wd hxE
            replace hb_g7 := hb_g7.ext hxE
            replace hrx := hrx.ext hxE
            replace hr := hr.ext hxE
            replace hE := hE.tr hxE
            replace hrq := hrq.ext hxE
            replace hb_g10 := hb_g10.ext hxE
            replace hb58 := hb58.ext hxE
            replace ho62 := Own.ext ho62 hxE
            replace ho65 := Own.ext ho65 hxE
            replace hb67 := hb67.ext hxE
            replace ho67 := Own.ext ho67 hxE
            have hz_hxE := hxE.size
            rintro _ rfl
            show OpG _ _ _ _ _ _
            exact og_plain rfl (ox_val (ov_loadAt oc26 rfl hb_g7 rfl))
          · intro wd hxE
            replace hb_g7 := hb_g7.ext hxE
            replace hrx := hrx.ext hxE
            replace hr := hr.ext hxE
            replace hE := hE.tr hxE
            replace hrq := hrq.ext hxE
            replace hb_g10 := hb_g10.ext hxE
            replace hb58 := hb58.ext hxE
            replace ho62 := Own.ext ho62 hxE
            replace ho65 := Own.ext ho65 hxE
            replace hb67 := hb67.ext hxE
            replace ho67 := Own.ext ho67 hxE
            have hz_hxE := hxE.size
            rintro _ rfl
            show OpG _ _ _ _ _ _
            exact og_plain rfl (ox_val (ov_len Try.underlying26 rfl))
          · intro wd hxE
            replace hb_g7 := hb_g7.ext hxE
            replace hrx := hrx.ext hxE
            replace hr := hr.ext hxE
            replace hE := hE.tr hxE
            replace hrq := hrq.ext hxE
            replace hb_g10 := hb_g10.ext hxE
            replace hb58 := hb58.ext hxE
            replace ho62 := Own.ext ho62 hxE
            replace ho65 := Own.ext ho65 hxE
            replace hb67 := hb67.ext hxE
            replace ho67 := Own.ext ho67 hxE
            have hz_hxE := hxE.size
            rintro _ rfl
            rintro _ rfl
            show OpG _ _ _ _ _ _
            exact og_plain rfl (ox_F (fun h => h (dheld_len hcl)) (ov_neq rfl rfl))
          · intro wd hxE
            replace hb_g7 := hb_g7.ext hxE
            replace hrx := hrx.ext hxE
            replace hr := hr.ext hxE
            replace hE := hE.tr hxE
            replace hrq := hrq.ext hxE
            replace hb_g10 := hb_g10.ext hxE
            replace hb58 := hb58.ext hxE
            replace ho62 := Own.ext ho62 hxE
            replace ho65 := Own.ext ho65 hxE
            replace hb67 := hb67.ext hxE
            replace ho67 := Own.ext ho67 hxE
            have hz_hxE := hxE.size
            rintro _ rfl
            show OpG _ _ _ _ _ _
            exact og_plain rfl (ox_val (ov_move rfl))
          · intro wd hxE
            replace hb_g7 := hb_g7.ext hxE
            replace hrx := hrx.ext hxE
            replace hr := hr.ext hxE
            replace hE := hE.tr hxE
            replace hrq := hrq.ext hxE
            replace hb_g10 := hb_g10.ext hxE
            replace hb58 := hb58.ext hxE
            replace ho62 := Own.ext ho62 hxE
            replace ho65 := Own.ext ho65 hxE
            replace hb67 := hb67.ext hxE
            replace ho67 := Own.ext ho67 hxE
            have hz_hxE := hxE.size
            rintro _ rfl
            show OpG _ _ _ _ _ _
            exact og_on rfl rfl rfl (ox_val (ov_move rfl))
          · intro wd hxE
            replace hb_g7 := hb_g7.ext hxE
            replace hrx := hrx.ext hxE
            replace hr := hr.ext hxE
            replace hE := hE.tr hxE
            replace hrq := hrq.ext hxE
            replace hb_g10 := hb_g10.ext hxE
            replace hb58 := hb58.ext hxE
            replace ho62 := Own.ext ho62 hxE
            replace ho65 := Own.ext ho65 hxE
            replace hb67 := hb67.ext hxE
            replace ho67 := Own.ext ho67 hxE
            have hz_hxE := hxE.size
            rintro _ rfl
            rintro _ rfl
            show OpG _ _ _ _ _ _
            refine og_on rfl rfl rfl (OpRun.mono (or_call0 cl39 rfl rfl (dneed_ok _ w7.heap.size gc58 D58 m cl l hb58 (by first | omega | (simp; done)))) ?_)
            rintro v w213 ⟨rfl, he144⟩
            replace hb_g7 := hb_g7.ext he144
            replace hrx := hrx.ext he144
            replace hr := hr.ext he144
            replace hE := hE.tr he144
            replace hrq := hrq.ext he144
            replace hb_g10 := hb_g10.ext he144
            replace hb58 := hb58.ext he144
            replace ho62 := Own.ext ho62 he144
            replace ho65 := Own.ext ho65 he144
            replace hb67 := hb67.ext he144
            replace ho67 := Own.ext ho67 he144
            have hz_he144 := he144.size
            exact ⟨rfl, he144⟩
          · intro wd hxE
            replace hb_g7 := hb_g7.ext hxE
            replace hrx := hrx.ext hxE
            replace hr := hr.ext hxE
            replace hE := hE.tr hxE
            replace hrq := hrq.ext hxE
            replace hb_g10 := hb_g10.ext hxE
            replace hb58 := hb58.ext hxE
            replace ho62 := Own.ext ho62 hxE
            replace ho65 := Own.ext ho65 hxE
            replace hb67 := hb67.ext hxE
            replace ho67 := Own.ext ho67 hxE
            have hz_hxE := hxE.size
            rintro _ rfl
            show OpG _ _ _ _ _ _
            exact og_on rfl rfl rfl (ox_val (ov_loadBlk (cs := [(.int .i64 (↑m : Int)), (.slice A l.length c), (.bool cl)]) ag57_3 rfl hb_g7))
          · intro wd hxE
            replace hb_g7 := hb_g7.ext hxE
            replace hrx := hrx.ext hxE
            replace hr := hr.ext hxE
            replace hE := hE.tr hxE
            replace hrq := hrq.ext hxE
            replace hb_g10 := hb_g10.ext hxE
            replace hb58 := hb58.ext hxE
            replace ho62 := Own.ext ho62 hxE
            replace ho65 := Own.ext ho65 hxE
            replace hb67 := hb67.ext hxE
            replace ho67 := Own.ext ho67 hxE
            have hz_hxE := hxE.size
            rintro _ rfl
            rintro _ rfl
            show OpG _ _ _ _ _ _
            refine og_on rfl rfl rfl (OpRun.mono (or_call0 cl48 rfl rfl (rneed06_any _ _ _ (m) _ _ l cl hr (by omega) (by first | omega | (simp; done)) (by omega))) ?_)
            rintro v w213 ⟨rfl, he146⟩
            replace hb_g7 := hb_g7.ext he146
            replace hrx := hrx.ext he146
            replace hr := hr.ext he146
            replace hE := hE.tr he146
            replace hrq := hrq.ext he146
            replace hb_g10 := hb_g10.ext he146
            replace hb58 := hb58.ext he146
            replace ho62 := Own.ext ho62 he146
            replace ho65 := Own.ext ho65 he146
            replace hb67 := hb67.ext he146
            replace ho67 := Own.ext ho67 he146
            have hz_he146 := he146.size
            exact ⟨rfl, he146⟩
          · intro wd hxE
            replace hb_g7 := hb_g7.ext hxE
            replace hrx := hrx.ext hxE
            replace hr := hr.ext hxE
            replace hE := hE.tr hxE
            replace hrq := hrq.ext hxE
            replace hb_g10 := hb_g10.ext hxE
            replace hb58 := hb58.ext hxE
            replace ho62 := Own.ext ho62 hxE
            replace ho65 := Own.ext ho65 hxE
            replace hb67 := hb67.ext hxE
            replace ho67 := Own.ext ho67 hxE
            have hz_hxE := hxE.size
            rintro _ rfl
            rintro _ rfl
            rintro _ rfl
            show OpG _ _ _ _ _ _
            exact og_on rfl rfl rfl (ox_F (fun h => h rfl) (ov_neq rfl rfl))
          · intro wd hxE
            replace hb_g7 := hb_g7.ext hxE
            replace hrx := hrx.ext hxE
            replace hr := hr.ext hxE
            replace hE := hE.tr hxE
            replace hrq := hrq.ext hxE
            replace hb_g10 := hb_g10.ext hxE
            replace hb58 := hb58.ext hxE
            replace ho62 := Own.ext ho62 hxE
            replace ho65 := Own.ext ho65 hxE
            replace hb67 := hb67.ext hxE
            replace ho67 := Own.ext ho67 hxE
            have hz_hxE := hxE.size
            rintro _ rfl
            rintro _ rfl
            show OpG _ _ _ _ _ _
            exact og_plain rfl (ox_val (ov_pick_f rfl rfl))
          · intro wd hxE
            replace hb_g7 := hb_g7.ext hxE
            replace hrx := hrx.ext hxE
            replace hr := hr.ext hxE
            replace hE := hE.tr hxE
            replace hrq := hrq.ext hxE
            replace hb_g10 := hb_g10.ext hxE
            replace hb58 := hb58.ext hxE
            replace ho62 := Own.ext ho62 hxE
            replace ho65 := Own.ext ho65 hxE
            replace hb67 := hb67.ext hxE
            replace ho67 := Own.ext ho67 hxE
            have hz_hxE := hxE.size
            rintro _ rfl
            show OpG _ _ _ _ _ _
            exact og_plain rfl (ox_val (ov_move rfl))
          · intro wd hxE
            replace hb_g7 := hb_g7.ext hxE
            replace hrx := hrx.ext hxE
            replace hr := hr.ext hxE
            replace hE := hE.tr hxE
            replace hrq := hrq.ext hxE
            replace hb_g10 := hb_g10.ext hxE
            replace hb58 := hb58.ext hxE
            replace ho62 := Own.ext ho62 hxE
            replace ho65 := Own.ext ho65 hxE
            replace hb67 := hb67.ext hxE
            replace ho67 := Own.ext ho67 hxE
            have hz_hxE := hxE.size
            rintro _ rfl
            show OpG _ _ _ _ _ _
            exact og_on rfl rfl rfl (ox_val (ov_move rfl))
          · intro wd hxE
            replace hb_g7 := hb_g7.ext hxE
            replace hrx := hrx.ext hxE
            replace hr := hr.ext hxE
            replace hE := hE.tr hxE
            replace hrq := hrq.ext hxE
            replace hb_g10 := hb_g10.ext hxE
            replace hb58 := hb58.ext hxE
            replace ho62 := Own.ext ho62 hxE
            replace ho65 := Own.ext ho65 hxE
            replace hb67 := hb67.ext hxE
            replace ho67 := Own.ext ho67 hxE
            have hz_hxE := hxE.size
            rintro _ rfl
            rintro _ rfl
            show OpG _ _ _ _ _ _
            refine og_on rfl rfl rfl (OpRun.mono (or_call0 cl49 rfl rfl (dclosed_ok _ w7.heap.size gc58 D58 m cl l hb58 (by first | omega | (simp; done)))) ?_)
            rintro v w213 ⟨rfl, he151⟩
            replace hb_g7 := hb_g7.ext he151
            replace hrx := hrx.ext he151
            replace hr := hr.ext he151
            replace hE := hE.tr he151
            replace hrq := hrq.ext he151
            replace hb_g10 := hb_g10.ext he151
            replace hb58 := hb58.ext he151
            replace ho62 := Own.ext ho62 he151
            replace ho65 := Own.ext ho65 he151
            replace hb67 := hb67.ext he151
            replace ho67 := Own.ext ho67 he151
            have hz_he151 := he151.size
            exact ⟨rfl, he151⟩
          · intro wd hxE
            replace hb_g7 := hb_g7.ext hxE
            replace hrx := hrx.ext hxE
            replace hr := hr.ext hxE
            replace hE := hE.tr hxE
            replace hrq := hrq.ext hxE
            replace hb_g10 := hb_g10.ext hxE
            replace hb58 := hb58.ext hxE
            replace ho62 := Own.ext ho62 hxE
            replace ho65 := Own.ext ho65 hxE
            replace hb67 := hb67.ext hxE
            replace ho67 := Own.ext ho67 hxE
            have hz_hxE := hxE.size
            rintro _ rfl
            show OpG _ _ _ _ _ _
            exact og_on rfl rfl rfl (ox_val (ov_field0 (off := 2) fo57_2 rfl))
          · intro wd hxE
            replace hb_g7 := hb_g7.ext hxE
            replace hrx := hrx.ext hxE
            replace hr := hr.ext hxE
            replace hE := hE.tr hxE
            replace hrq := hrq.ext hxE
            replace hb_g10 := hb_g10.ext hxE
            replace hb58 := hb58.ext hxE
            replace ho62 := Own.ext ho62 hxE
            replace ho65 := Own.ext ho65 hxE
            replace hb67 := hb67.ext hxE
            replace ho67 := Own.ext ho67 hxE
            have hz_hxE := hxE.size
            rintro _ rfl
            rintro _ rfl
            show OpG _ _ _ _ _ _
            exact og_on rfl rfl rfl (ox_val (ov_loadAt oc4 rfl hb_g7 rfl))
          · intro wf42 hf42
            replace hb_g7 := hb_g7.ext hf42
            replace hrx := hrx.ext hf42
            replace hr := hr.ext hf42
            replace hE := hE.tr hf42
            replace hrq := hrq.ext hf42
            replace hb_g10 := hb_g10.ext hf42
            replace hb58 := hb58.ext hf42
            replace ho62 := Own.ext ho62 hf42
            replace ho65 := Own.ext ho65 hf42
            replace hb67 := hb67.ext hf42
            replace ho67 := Own.ext ho67 hf42
            have hz_hf42 := hf42.size
            rintro _ rfl
            rintro _ rfl
            rintro _ rfl
            rintro _ rfl
            rintro _ rfl
            rintro _ rfl
            rintro _ rfl
            rintro _ rfl
            rintro _ rfl
            rintro _ rfl
            rintro _ rfl
            rintro _ rfl
            rintro _ rfl
            rintro _ rfl
            rintro _ rfl
            rintro _ rfl
            rintro _ rfl
            rintro _ rfl
            show WL _ _ _ [_, _] _ _ _
            refine wl_gval (ov_neb Try.underlying4 rfl rfl) rfl rfl rfl rfl rfl ?_
            refine wl_spell (d := 154) rfl (v' := (.bool false)) (by simp) ?_
            refine wl_val (ov_pick_f rfl rfl) rfl rfl rfl ?_
            refine q_nil ?_
            refine k_then ?_
            refine wc_cond_f rfl ?_
            refine q_skip ?_
            refine k_block ?_
            refine k_then ?_
            refine wc_regionL ?_
            refine wl_val (ov_add rfl rfl (wi64 (by omega) (by omega))) rfl rfl rfl ?_
            refine wl_val (ov_move rfl) rfl rfl rfl ?_
            refine q_nil ?_
            refine k_loop ((k + 1, _, lor, hir, gc58, D58, cl, l, A, c)) (by show xs.length - (k + 1) < xs.length - k; omega) (⟨rfl, rfl, rfl, rfl, rfl, trivial⟩) (⟨by show k + 1 ≤ _; omega, ⟨hb58, hr, by first | omega | (dsimp only; omega), Nat.le_trans hg158 (Nat.le_of_lt hb58.lt.1), by first | omega | (dsimp only; omega), fun x e => by have := hDs58 x e; first | omega | (dsimp only; omega), hcl, by first | omega | (dsimp only; omega), fun x e => by have := hDs58 x e; omega⟩, by show l.length ≤ 300 * (k + 1); omega, hb_g7, by first | omega | (dsimp only; omega), fun x e => by have := hDs58 x e; omega, by first | omega | (dsimp only; omega), hrx, hE⟩)
    · refine q_exit ?_
      refine k_thenX ?_
      refine k_thenX ?_
      refine k_blockE ?_
      refine k_then ?_
      refine wc_seq ?_
      refine wc_regionL ?_
      refine wl_step (or_call0 cl30 rfl rfl (known06_any _)) rfl rfl rfl ?_
      rintro v w206 ⟨rfl, he157⟩
      replace hb_g7 := hb_g7.ext he157
      replace hrx := hrx.ext he157
      replace hdec := hdec.ext he157
      replace hr := hr.ext he157
      replace hE := hE.tr he157
      have hz_he157 := he157.size
      refine wl_val (ov_assign rfl) rfl rfl rfl ?_
      refine q_nil ?_
      refine k_then ?_
      refine q_ret ?_
      refine e_ret rfl rfl ?_
      exact ⟨rfl, hE⟩
  · refine wl_val (ov_not (b := false) rfl) rfl rfl rfl ?_
    refine q_nil ?_
    refine k_then ?_
    refine wc_cond_t rfl ?_
    refine wc_seq ?_
    refine wc_regionL ?_
    refine wl_step (or_call0 cl30 rfl rfl (known06_any _)) rfl rfl rfl ?_
    rintro v w202 ⟨rfl, he25⟩
    replace hrx := hrx.ext he25
    replace hE := hE.tr he25
    have hz_he25 := he25.size
    refine wl_val (ov_assign rfl) rfl rfl rfl ?_
    refine q_nil ?_
    refine k_then ?_
    refine q_ret ?_
    refine k_thenR ?_
    refine e_ret rfl rfl ?_
    exact ⟨rfl, hE⟩

theorem decodePlays_bad (w : World) (m : Int) (h : m < 0 ∨ 2097152 < m) (lox hix : Nat) (C : Option Addr) (cx : Nat) (xs : List Act06) (hrx : RdR w lox hix 2 act06c C cx xs) :
    Fn Try.prog 11 #[(.int .i64 m), (.slice C xs.length cx)] w (fun v w' => v = .bool true ∧ Ext w w')  := by
  replace hrx := hrx.top
  have hE := ext_refl w
  refine fn_enter (args := [(.int .i64 m), (.slice C xs.length cx)]) Try.func11 rfl rfl rfl ?_
  show WC _ _ _ _ [(0, (.int .i64 m)), (1, (.slice C xs.length cx))] _
  refine wc_seq ?_
  refine wc_regionL ?_
  refine wl_val (ov_assign rfl) rfl rfl rfl ?_
  refine q_nil ?_
  refine k_then ?_
  refine wc_seq ?_
  refine wc_seq ?_
  refine wc_regionL ?_
  refine wl_val (ov_move rfl) rfl rfl rfl ?_
  refine wl_step (or_call0 cl43 rfl rfl (few06_any _ _ _ _ _ xs hrx)) rfl rfl rfl ?_
  rintro v w1 ⟨rfl, he23⟩
  replace hrx := hrx.ext he23
  replace hE := hE.tr he23
  have hz_he23 := he23.size
  refine wl_case_d (d := 23) rfl (fun hfew => ?_) (fun hfew => ?_)
  · refine wl_val (ov_not (b := true) rfl) rfl rfl rfl ?_
    refine q_nil ?_
    refine k_then ?_
    refine wc_cond_f rfl ?_
    refine q_skip ?_
    refine k_then ?_
    refine wc_seq ?_
    refine wc_regionL ?_
    refine wl_val (ov_move rfl) rfl rfl rfl ?_
    refine wl_step (or_call0 cl35 rfl rfl (dnew_bad _ m (by omega))) rfl rfl rfl ?_
    rintro v w2 ⟨rfl, he28⟩
    replace hrx := hrx.ext he28
    replace hE := hE.tr he28
    have hz_he28 := he28.size
    refine wl_val (ov_move rfl) rfl rfl rfl ?_
    refine wl_val (ov_extract rfl rfl) rfl rfl rfl ?_
    refine wl_val (ov_extract rfl rfl) rfl rfl rfl ?_
    refine wl_val (ov_assign rfl) rfl rfl rfl ?_
    refine wl_val (ov_assign rfl) rfl rfl rfl ?_
    refine q_nil ?_
    refine k_then ?_
    refine wc_seq ?_
    refine wc_regionL ?_
    refine wl_val (ov_move rfl) rfl rfl rfl ?_
    refine wl_step (or_call0 cl31 rfl rfl (rnew06_bad _ m (by omega))) rfl rfl rfl ?_
    rintro v w3 ⟨rfl, he33⟩
    replace hrx := hrx.ext he33
    replace hE := hE.tr he33
    have hz_he33 := he33.size
    refine wl_val (ov_move rfl) rfl rfl rfl ?_
    refine wl_val (ov_extract rfl rfl) rfl rfl rfl ?_
    refine wl_val (ov_extract rfl rfl) rfl rfl rfl ?_
    refine wl_step (or_alloc (cs := [(.int .i64 0), (.slice none 0 0), (.bool false)]) ze57 rfl) rfl rfl rfl ?_
    rintro v w4 ⟨g7, rfl, hb_g7, he7, hl7, hu7⟩
    replace hrx := hrx.ext he7
    replace hE := hE.tr he7
    have hz_he7 := he7.size
    refine wl_step0 (or_storeBlk (vs := [(.int .i64 0), (.slice none 0 0), (.bool false)]) sz57 rfl rfl (by simp [Value.oneCell']) hb_g7 rfl) rfl rfl ?_
    rintro _ w5 ⟨hN5, hg5⟩
    have hz_hg5 := hg5.size
    replace hrx := hrx.gr hg5 (fun _ e => by cases e; omega)
    replace hE := hE.gr hg5 (fun _ e => by cases e; omega)
    replace hb_g7 := hN5
    refine wl_val (ov_assign rfl) rfl rfl rfl ?_
    refine q_nil ?_
    refine k_then ?_
    refine wc_seq ?_
    refine wc_seq ?_
    refine wc_regionL ?_
    refine wl_val (ov_move rfl) rfl rfl rfl ?_
    refine wl_val (ov_move rfl) rfl rfl rfl ?_
    refine wl_val (ov_neq rfl rfl) rfl rfl rfl ?_
    refine wl_val (ov_move rfl) rfl rfl rfl ?_
    refine wl_gval (ov_move rfl) rfl rfl rfl rfl rfl ?_
    refine wl_gval (ov_nilptr Try.underlying68 rfl) rfl rfl rfl rfl rfl ?_
    refine wl_gval (ov_move rfl) rfl rfl rfl rfl rfl ?_
    refine wl_gval (ov_neq rfl rfl) rfl rfl rfl rfl rfl ?_
    refine wl_gval (ov_neb Try.underlying4 rfl rfl) rfl rfl rfl rfl rfl ?_
    refine wl_spell (d := 44) rfl (v' := (.bool false)) (rfl) ?_
    refine wl_val (ov_pick_f rfl rfl) rfl rfl rfl ?_
    refine q_nil ?_
    refine k_then ?_
    refine wc_cond_f rfl ?_
    refine q_skip ?_
    refine k_then ?_
    refine wc_seq ?_
    refine wc_seq ?_
    refine wc_regionL ?_
    refine wl_val (ov_move rfl) rfl rfl rfl ?_
    refine wl_val (ov_nilptr Try.underlying68 rfl) rfl rfl rfl ?_
    refine q_nil ?_
    refine k_then ?_
    refine wc_cond_t rfl ?_
    refine wc_seq ?_
    refine wc_regionL ?_
    refine wl_step (or_call0 cl30 rfl rfl (known06_any _)) rfl rfl rfl ?_
    rintro v w6 ⟨rfl, he48⟩
    replace hrx := hrx.ext he48
    replace hE := hE.tr he48
    replace hb_g7 := hb_g7.ext he48
    have hz_he48 := he48.size
    refine wl_val (ov_assign rfl) rfl rfl rfl ?_
    refine q_nil ?_
    refine k_then ?_
    refine q_ret ?_
    refine k_thenR ?_
    refine e_ret rfl rfl ?_
    exact ⟨rfl, hE⟩
  · refine wl_val (ov_not (b := false) rfl) rfl rfl rfl ?_
    refine q_nil ?_
    refine k_then ?_
    refine wc_cond_t rfl ?_
    refine wc_seq ?_
    refine wc_regionL ?_
    refine wl_step (or_call0 cl30 rfl rfl (known06_any _)) rfl rfl rfl ?_
    rintro v w202 ⟨rfl, he25⟩
    replace hrx := hrx.ext he25
    replace hE := hE.tr he25
    have hz_he25 := he25.size
    refine wl_val (ov_assign rfl) rfl rfl rfl ?_
    refine q_nil ?_
    refine k_then ?_
    refine q_ret ?_
    refine k_thenR ?_
    refine e_ret rfl rfl ?_
    exact ⟨rfl, hE⟩

theorem decodePlays_walk (w : World) (m : Int) (lox hix : Nat) (C : Option Addr) (cx : Nat) (xs : List Act06) (hrx : RdR w lox hix 2 act06c C cx xs) (hQ : ∀ a ∈ xs, RdB w 0 w.heap.size a.2.1 a.2.2.1 a.2.2.2) : Fn Try.prog 11 #[.int .i64 m, .slice C xs.length cx] w (fun v w' => v = .bool true ∧ Ext w w') := by
  by_cases h : m < 0 ∨ 2097152 < m
  · exact decodePlays_bad w m h lox hix C cx xs hrx
  · obtain ⟨k, rfl⟩ : ∃ k : Nat, m = (k : Int) := ⟨m.toNat, by omega⟩
    exact decodePlays_ok w k (by omega) lox hix C cx xs hrx hQ

end Go.Proofs.Ytopfjpkjpmdhaaa
