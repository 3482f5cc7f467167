/-
  The walk of DecodeHolds.
-/
import Derived.Test.YtopfjpkjpmdhaaaDi
namespace Go.Proofs.Ytopfjpkjpmdhaaa
open Go.RowKit
set_option linter.unusedVariables false
set_option maxRecDepth 4000
theorem cl30 : callable Try.prog 30 = true := by kernel_rfl
theorem cl41 : callable Try.prog 41 = true := by kernel_rfl

/-- Frames, their cells. -/
abbrev Fr6 := UInt8 × Option Addr × Nat × List UInt8
def fr6c (x : Fr6) : List Value := [.int .u8 (x.1.toNat : Int), .slice x.2.1 x.2.2.2.length x.2.2.1]
theorem fread_zero {m : Int} (h0 : 0 ≤ m) (hm : m ≤ 2097152) (r : List UInt8) : fread (0 :: r) m = ((0, []), 0, 6) := by
  have h : vget (0 :: r) = (0, 1, 0) := vget_enc (n := 0) (by decide) r
  exact fread_fmt ⟨h0, hm⟩ (by rw [h]) (by rw [h])
theorem dnext_z0 {m : Nat} (hm : m ≤ 2097152) (r : List UInt8) : dnext m false (0 :: r) = (false, r, (0, []), 6) := by
  have h := fread_zero (m := (m : Int)) (by omega) (by omega) r
  rw [dnext_6 (by rw [h]), h]; rfl
theorem dneed_z0 {m : Nat} (hm : m ≤ 2097152) (r : List UInt8) : dneed m false (0 :: r) = 0 := by
  have h := fread_zero (m := (m : Int)) (by omega) (by omega) r
  rw [dneed, if_neg (by decide), if_pos (by rw [h]; decide)]
theorem dneed_cut {x : UInt8} {p : List UInt8} {m j : Nat} (hp : p.length ≤ m) (hm : m ≤ 2097152) (hj : j < (enc (p.length + 1) ++ [x] ++ p).length) :
    1 ≤ dneed m false ((enc (p.length + 1) ++ [x] ++ p).take j) ∧ dneed m false ((enc (p.length + 1) ++ [x] ++ p).take j) ≤ ((enc (p.length + 1) ++ [x] ++ p).length : Int) - (j : Int) := by
  have hc := fread_cut (x := x) (p := p) (most := (m : Int)) (by omega) (by omega) hj
  have hlt : ((enc (p.length + 1) ++ [x] ++ p).take j).length = j := by rw [List.length_take]; omega
  have hln : (enc (p.length + 1) ++ [x] ++ p).length = (enc (p.length + 1)).length + (p.length + 1) := by simp
  rw [dneed, if_neg (by decide), if_neg (by rw [hc]; decide)]
  by_cases h : j < (enc (p.length + 1)).length
  · have e : (enc (p.length + 1) ++ [x] ++ p).take j = (enc (p.length + 1)).take j := by rw [List.append_assoc, List.take_append_of_le_length (by omega)]
    rw [if_pos (by rw [e, vget_cut (by omega) h]; decide)]
    omega
  · have e : (enc (p.length + 1) ++ [x] ++ p).take j = enc (p.length + 1) ++ ([x] ++ p).take (j - (enc (p.length + 1)).length) := by
      rw [List.append_assoc, List.take_append, List.take_of_length_le (by omega)]
    have hv := vget_enc (n := p.length + 1) (by omega) (([x] ++ p).take (j - (enc (p.length + 1)).length))
    rw [if_neg (by rw [e, hv]; simp), hlt, e, hv]
    simp only
    omega
theorem dnext_cut {x : UInt8} {p : List UInt8} {m j : Nat} (hp : p.length ≤ m) (hm : m ≤ 2097152) (hj : j < (enc (p.length + 1) ++ [x] ++ p).length) :
    dnext m false ((enc (p.length + 1) ++ [x] ++ p).take j) = (false, (enc (p.length + 1) ++ [x] ++ p).take j, (0, []), 4) := by
  have hc := fread_cut (x := x) (p := p) (most := (m : Int)) (by omega) (by omega) hj
  rw [dnext_o (by rw [hc]; decide) (by rw [hc]; decide), hc]; rfl
theorem dnext_wire {x : UInt8} {p : List UInt8} {m : Nat} (hp : p.length ≤ m) (hm : m ≤ 2097152) : dnext m false (enc (p.length + 1) ++ [x] ++ p) = (false, [], (x, p), 0) := by
  have hc := fread_wire0 (x := x) (p := p) (most := (m : Int)) (by omega) (by omega)
  rw [dnext_o (by rw [hc]; simp) (by rw [hc]; simp), hc]
  simp only [Prod.mk.injEq, and_true, true_and]
  exact List.drop_of_length_le (by simp)
theorem dneed_wire {x : UInt8} {p : List UInt8} {m : Nat} (hp : p.length ≤ m) (hm : m ≤ 2097152) : dneed m false (enc (p.length + 1) ++ [x] ++ p) = 0 := by
  have hc := fread_wire0 (x := x) (p := p) (most := (m : Int)) (by omega) (by omega)
  rw [dneed, if_neg (by decide), if_pos (by rw [hc]; simp)]
theorem rep_succ {n j : Nat} (h : j < n) : List.replicate (n - j) (0 : UInt8) = 0 :: List.replicate (n - (j + 1)) 0 := by
  rw [show n - j = (n - (j + 1)) + 1 by omega]; rfl
theorem take_one {W : List UInt8} {j : Nat} : W.take j ++ (W.drop j).take 1 = W.take (j + 1) := (List.take_add ..).symm

set_option maxHeartbeats 4000000 in
theorem decodeHolds_walk (w : World) (lox hix : Nat) (C : Option Addr) (cx : Nat) (xs : List Fr6) (hrx : RdR w lox hix 2 fr6c C cx xs) (hQ : ∀ a ∈ xs, RdB w 0 w.heap.size a.2.1 a.2.2.1 a.2.2.2) (loz hiz : Nat) (Z : Option Addr) (cz : Nat) (z : List UInt8) (hrz : RdB w loz hiz Z cz z) :
    Fn Try.prog 10 #[(.slice C xs.length cx), (.slice Z z.length cz)] w (fun v w' => v = .bool true ∧ Ext w w')  := by
  replace hrx := hrx.top
  replace hrz := hrz.top
  have hE := ext_refl w
  refine fn_enter (args := [(.slice C xs.length cx), (.slice Z z.length cz)]) Try.func10 rfl rfl rfl ?_
  show WC _ _ _ _ [(0, (.slice C xs.length cx)), (1, (.slice Z z.length cz))] _
  refine wc_seq ?_
  refine wc_regionL ?_
  refine wl_val (ov_assign rfl) rfl rfl rfl ?_
  refine q_nil ?_
  refine k_then ?_
  refine wc_seq ?_
  refine wc_seq ?_
  refine wc_regionL ?_
  refine wl_val (ov_move rfl) rfl rfl rfl ?_
  refine wl_val (ov_len Try.underlying60 rfl) rfl rfl rfl ?_
  refine wl_val (ov_gtr rfl rfl) rfl rfl rfl ?_
  refine wl_case_d (d := 16) rfl (fun h16 => ?_) (fun h16 => ?_)
  · refine q_nil ?_
    refine k_then ?_
    refine wc_cond_t rfl ?_
    refine wc_seq ?_
    refine wc_regionL ?_
    refine wl_step (or_call0 cl30 rfl rfl (known06_any _)) rfl rfl rfl ?_
    rintro v w1 ⟨rfl, he17⟩
    replace hrx := hrx.ext he17
    replace hrz := hrz.ext he17
    replace hE := hE.tr he17
    have hz_he17 := he17.size
    refine wl_val (ov_assign rfl) rfl rfl rfl ?_
    refine q_nil ?_
    refine k_then ?_
    refine q_ret ?_
    refine k_thenR ?_
    refine e_ret rfl rfl ?_
    exact ⟨rfl, hE⟩
  · refine q_nil ?_
    refine k_then ?_
    refine wc_cond_f rfl ?_
    refine q_skip ?_
    refine k_then ?_
    refine wc_seq ?_
    refine wc_regionL ?_
    refine wl_step (or_call0 cl35 rfl rfl (dnew_ok _ 100 (by omega))) rfl rfl rfl ?_
    rintro v w201 ⟨gn19, rfl, hb19, he19, hg119⟩
    replace hrx := hrx.ext he19
    replace hrz := hrz.ext he19
    replace hE := hE.tr he19
    have hz_he19 := he19.size
    have hDs19 : ∀ x, (none : Option Nat) = some x → w.heap.size ≤ x ∧ x < w201.heap.size := fun x e => by cases e
    have hzb19 := hb19.lt.1
    have hcp19 := hb19.cap
    have hnl19 : ([] : List UInt8).length = 0 := rfl
    refine wl_val (ov_move rfl) rfl rfl rfl ?_
    refine wl_val (ov_extract rfl rfl) rfl rfl rfl ?_
    refine wl_val (ov_extract rfl rfl) rfl rfl rfl ?_
    refine wl_val (ov_assign rfl) rfl rfl rfl ?_
    refine wl_val (ov_assign rfl) rfl rfl rfl ?_
    refine q_nil ?_
    refine k_then ?_
    refine wc_seq ?_
    refine wc_seq ?_
    refine wc_regionL ?_
    refine wl_val (ov_move rfl) rfl rfl rfl ?_
    refine wl_val (ov_nilptr Try.underlying68 rfl) rfl rfl rfl ?_
    refine wl_val (ov_move rfl) rfl rfl rfl ?_
    refine wl_gval (ov_move rfl) rfl rfl rfl rfl rfl ?_
    refine wl_gval (ov_neq rfl rfl) rfl rfl rfl rfl rfl ?_
    refine wl_val (ov_pick_f rfl rfl) rfl rfl rfl ?_
    refine q_nil ?_
    refine k_then ?_
    refine wc_cond_f rfl ?_
    refine q_skip ?_
    refine k_then ?_
    refine wc_seq ?_
    refine wc_seq ?_
    refine wc_regionL ?_
    refine wl_val (ov_move rfl) rfl rfl rfl ?_
    refine wl_val (ov_len Try.underlying60 rfl) rfl rfl rfl ?_
    refine wl_val (ov_move rfl) rfl rfl rfl ?_
    refine q_nil ?_
    refine k_then ?_
    refine wc_block ?_
    have hgn := hb19.lt.1
    refine wc_loop (σ := Nat × Option Nat) (fun s => xs.length - s.1) (fun s => [(1, .slice Z z.length cz), (5, .pointer (some ⟨gn19, 0, none⟩)), (28, .slice C xs.length cx), (29, .int .i64 (xs.length : Int)), (30, .int .i64 (s.1 : Int))]) (fun s w' => s.1 ≤ xs.length ∧ Dec w' w.heap.size gn19 s.2 100 false [] ∧ RdR w' lox w.heap.size 2 fr6c C cx xs ∧ RdB w' loz w.heap.size Z cz z ∧ Ext w w') ((0, none)) (⟨Nat.zero_le _, hb19.mono (by omega), hrx, hrz, hE⟩) (⟨rfl, rfl, rfl, rfl, rfl, trivial⟩) ?_
    rintro ⟨k, D⟩ wq ⟨hk0, hdec, hrx, hrz, hE⟩
    show WC _ _ _ _ [(1, (.slice Z z.length cz)), (5, (.pointer (some ⟨gn19, 0, none⟩))), (28, (.slice C xs.length cx)), (29, (.int .i64 (↑xs.length : Int))), (30, (.int .i64 (↑k : Int)))] _
    replace hk0 : k ≤ xs.length := hk0
    replace hdec : Dec wq w.heap.size gn19 D 100 false [] := hdec
    have hz_E := hE.size
    have hzb := hdec.lt.1
    have hDs : ∀ x, D = some x → w.heap.size ≤ x ∧ x < wq.heap.size := fun x e => hdec.lt.2 x e
    refine wc_seq ?_
    refine wc_regionL ?_
    refine wl_val (ov_lss rfl rfl) rfl rfl rfl ?_
    refine q_nil ?_
    refine k_then ?_
    refine wc_seq ?_
    refine wc_cond_d rfl (fun hc3 => ?_) (fun hc3 => ?_)
    · obtain ⟨⟨x, Ap, cp, p⟩, hk⟩ : ∃ a, xs[k]? = some a := ⟨_, List.getElem?_eq_getElem (by omega)⟩
      have hxm := List.mem_of_getElem? hk
      have hrp : RdB _ 0 w.heap.size Ap cp p := (hQ _ hxm).ext hE
      refine q_skip ?_
      refine k_then ?_
      refine wc_seq ?_
      refine wc_block ?_
      refine wc_seq ?_
      refine wc_regionL ?_
      refine wl_val (ov_move rfl) rfl rfl rfl ?_
      refine wl_step (or_rindex (m := (k)) sl60 rfl rfl hrx (fun _ _ => rfl) hk) rfl rfl rfl ?_
      rintro v _ ⟨rfl, p33, rfl, hp33, hpl33, hph33⟩
      refine wl_val (ov_loadAgg (cs := [(.int .u8 (↑x.toNat : Int)), (.slice Ap p.length cp)]) ag72_2 rfl rfl hp33) rfl rfl rfl ?_
      refine wl_step (or_alloc (cs := [(.int .u8 0), (.slice none 0 0)]) ze72 rfl) rfl rfl rfl ?_
      rintro v w202 ⟨g8, rfl, hb_g8, he8, hl8, hu8⟩
      replace hdec := hdec.ext he8
      replace hrx := hrx.ext he8
      replace hrz := hrz.ext he8
      replace hE := hE.tr he8
      replace hrp := hrp.ext he8
      have hz_he8 := he8.size
      refine wl_val (ov_assign rfl) rfl rfl rfl ?_
      refine wl_step0 (or_storeBlk (vs := [(.int .u8 (↑x.toNat : Int)), (.slice Ap p.length cp)]) sz72 rfl rfl (by simp [Value.oneCell']) hb_g8 rfl) rfl rfl ?_
      rintro _ w203 ⟨hN203, hg203⟩
      have hz_hg203 := hg203.size
      replace hdec := hdec.gr hg203 (fun x e => by cases e; omega) (fun x e e2 => by cases e; have := hDs _ e2; omega)
      replace hrx := hrx.gr hg203 (fun _ e => by cases e; omega)
      replace hrz := hrz.gr hg203 (fun _ e => by cases e; omega)
      replace hE := hE.gr hg203 (fun _ e => by cases e; omega)
      replace hrp := hrp.gr hg203 (fun _ e => by cases e; omega)
      replace hb_g8 := hN203
      refine q_nil ?_
      refine k_then ?_
      refine wc_seq ?_
      refine wc_seq ?_
      refine wc_regionL ?_
      refine wl_val (ov_field0 (off := 1) fo72_1 rfl) rfl rfl rfl ?_
      refine wl_val (ov_loadAt oc26 rfl hb_g8 rfl) rfl rfl rfl ?_
      refine wl_val (ov_len Try.underlying26 rfl) rfl rfl rfl ?_
      refine wl_val (ov_gtr rfl rfl) rfl rfl rfl ?_
      refine q_nil ?_
      refine k_then ?_
      refine wc_cond_d rfl (fun hc4 => ?_) (fun hc4 => ?_)
      · refine wc_seq ?_
        refine wc_regionL ?_
        refine wl_step (or_call0 cl30 rfl rfl (known06_any _)) rfl rfl rfl ?_
        rintro v w204 ⟨rfl, he39⟩
        replace hdec := hdec.ext he39
        replace hrx := hrx.ext he39
        replace hrz := hrz.ext he39
        replace hE := hE.tr he39
        replace hrp := hrp.ext he39
        replace hb_g8 := hb_g8.ext he39
        have hz_he39 := he39.size
        refine wl_val (ov_assign rfl) rfl rfl rfl ?_
        refine q_nil ?_
        refine k_then ?_
        refine q_ret ?_
        refine k_thenR ?_
        refine k_blockR ?_
        refine k_thenR ?_
        refine k_thenR ?_
        refine k_blockR ?_
        refine k_thenR ?_
        refine e_ret rfl rfl ?_
        exact ⟨rfl, hE⟩
      · refine q_skip ?_
        refine k_then ?_
        refine wc_seq ?_
        refine wc_regionL ?_
        refine wl_val (ov_assign rfl) rfl rfl rfl ?_
        refine q_nil ?_
        refine k_then ?_
        refine wc_seq ?_
        refine wc_seq ?_
        refine wc_regionL ?_
        refine wl_val (ov_move rfl) rfl rfl rfl ?_
        refine wl_val (ov_move rfl) rfl rfl rfl ?_
        refine wl_val (ov_len Try.underlying26 rfl) rfl rfl rfl ?_
        refine wl_val (ov_lss rfl rfl) rfl rfl rfl ?_
        refine q_nil ?_
        refine k_then ?_
        refine wc_cond_d rfl (fun hc5 => ?_) (fun hc5 => ?_)
        · obtain ⟨n, hn, hn3⟩ : ∃ n : Nat, (((z.getD k 0).toNat % 4 : Nat) : Int) = (n : Int) ∧ n ≤ 3 := ⟨_, rfl, by omega⟩
          refine wc_regionL ?_
          refine wl_val (ov_move rfl) rfl rfl rfl ?_
          refine wl_val (ov_move rfl) rfl rfl rfl ?_
          refine wl_step (or_bindex bt26 rfl rfl hrz (by omega) (by omega)) rfl rfl rfl ?_
          rintro v _ ⟨rfl, p46, rfl, hp46, hpl46, hph46⟩
          replace hp46 : World.cell? _ p46 = some (u8v (z.getD k 0)) := hp46
          refine wl_val (ov_load oc5 rfl hp46) rfl rfl rfl ?_
          refine wl_val (ov_rem rfl rfl (by decide) (show (_ : Int).tmod ((4 : Nat) : Int) = _ from (Int.ofNat_tmod _ 4).symm)) rfl rfl rfl ?_
          refine wl_val (ov_conv Try.underlying5 Try.underlying3 rfl (wi64 (by omega) (by omega))) rfl rfl rfl ?_
          refine wl_val (ov_assign rfl) rfl rfl rfl ?_
          refine q_nil ?_
          refine k_then ?_
          refine wc_seq ?_
          refine wc_seq ?_
          refine wc_regionL ?_
          refine wl_spell (d := 9) rfl (v' := .int .i64 (n : Int)) (by rw [hn]) ?_
          refine wl_val (ov_move rfl) rfl rfl rfl ?_
          refine wl_val (ov_move rfl) rfl rfl rfl ?_
          refine wl_step (or_makeBytes (n := n) bt26 rfl rfl (by omega) (by omega)) rfl rfl rfl ?_
          rintro v w204 ⟨A52, c52, rfl, ho52, he52⟩
          replace hdec := hdec.ext he52
          replace hrx := hrx.ext he52
          replace hrz := hrz.ext he52
          replace hE := hE.tr he52
          replace hrp := hrp.ext he52
          replace hb_g8 := hb_g8.ext he52
          have hz_he52 := he52.size
          have hq_ho52 := fun g e => Own.lt ho52 (g := g) e
          refine wl_step (or_call0 cl38 rfl rfl (dfeed_ok _ w.heap.size gn19 D 100 false ([] : List UInt8) hdec (by first | omega | (simp; done)) _ _ _ _ (List.replicate n 0) (OwnB.rd ho52) (by omega) (fun x e => by have := hDs x e; omega) (by omega) (by simp; omega))) rfl rfl rfl ?_
          rintro v w205 ⟨rfl, ⟨D53, hb53, hN53⟩, hC53⟩
          have hDa53 : ∀ x, D = some x → (w.heap.size ≤ x ∧ x < wq.heap.size) ∧ x < w204.heap.size := fun x e => ⟨hDs x e, (hdec.lt.2 x e).2⟩
          have hz_hC53 := hC53.size
          replace hrx := hC53.rd hrx (by omega) (fun x e => by have := hDa53 x e; omega)
          replace hrz := hC53.rd hrz (by omega) (fun x e => by have := hDa53 x e; omega)
          replace hE := hC53.e0 hE (by omega) (fun x e => by have := hDa53 x e; omega)
          replace hrp := hC53.rd hrp (by omega) (fun x e => by have := hDa53 x e; omega)
          replace hb_g8 := hC53.bk hb_g8 (by omega) (fun e2 => by have := hDa53 _ e2; omega)
          replace ho52 := hC53.own ho52 (fun x e => by first | exact ⟨by have := hq_ho52 x e; omega, fun e2 => by have h1 := hq_ho52 x e; have h2 := hDa53 x e2; omega⟩)
          replace hb53 : Dec _ w.heap.size gn19 D53 100 false (List.replicate n 0) := hb53
          have hDs53 : ∀ x, D53 = some x → ((w.heap.size ≤ x ∧ x < wq.heap.size) ∨ w204.heap.size ≤ x) ∧ x < w205.heap.size := fun x e => ⟨(hN53 x e).imp (fun h => hDs x h) id, (hb53.lt.2 x e).2⟩
          have hzb53 := hb53.lt.1
          have hcp53 := hb53.cap
          refine wl_val (ov_neq rfl rfl) rfl rfl rfl ?_
          refine wl_spell (d := 54) rfl (bf (by decide)) ?_
          refine q_nil ?_
          refine k_then ?_
          refine wc_cond_f rfl ?_
          refine q_skip ?_
          refine k_then ?_
          refine wc_seq ?_
          refine wc_seq ?_
          refine wc_regionL ?_
          refine wl_val (ov_assign rfl) rfl rfl rfl ?_
          refine q_nil ?_
          refine k_then ?_
          refine wc_block ?_
          refine wc_loop (σ := Nat) (fun s => n - s) (fun s => [(1, .slice Z z.length cz), (5, .pointer (some ⟨gn19, 0, none⟩)), (28, .slice C xs.length cx), (29, .int .i64 (xs.length : Int)), (30, .int .i64 (k : Int)), (8, .pointer (some ⟨g8, 0, none⟩)), (9, .int .i64 (n : Int)), (10, .int .i64 (s : Int))]) (fun s w' => s ≤ n ∧ Dec w' w.heap.size gn19 D53 100 false (List.replicate (n - s) 0) ∧ Blk w' g8 72 [.int .u8 (x.toNat : Int), .slice Ap p.length cp] ∧ RdR w' lox w.heap.size 2 fr6c C cx xs ∧ RdB w' loz w.heap.size Z cz z ∧ Ext w w') (0) (⟨Nat.zero_le _, hb53, hb_g8, hrx, hrz, hE⟩) (⟨rfl, rfl, rfl, rfl, rfl, rfl, rfl, rfl, trivial⟩) ?_
          rintro j wr ⟨hj0, hdec, hb_g8, hrx, hrz, hE⟩
          show WC _ _ _ _ [(1, (.slice Z z.length cz)), (5, (.pointer (some ⟨gn19, 0, none⟩))), (28, (.slice C xs.length cx)), (29, (.int .i64 (↑xs.length : Int))), (30, (.int .i64 (↑k : Int))), (8, (.pointer (some ⟨g8, 0, none⟩))), (9, (.int .i64 (↑n : Int))), (10, (.int .i64 (↑j : Int)))] _
          have hz_E := hE.size
          have hzb := hdec.lt.1
          have hg8l := hb_g8.lt
          have hDs : ∀ x, D53 = some x → x ≠ g8 ∧ w.heap.size ≤ x ∧ x < wr.heap.size := fun x e => ⟨by have := hDs53 x e; omega, hdec.lt.2 x e⟩
          have hrp : RdB _ 0 w.heap.size Ap cp p := (hQ _ hxm).ext hE
          refine wc_seq ?_
          refine wc_seq ?_
          refine wc_regionL ?_
          refine wl_val (ov_move rfl) rfl rfl rfl ?_
          refine wl_val (ov_move rfl) rfl rfl rfl ?_
          refine wl_val (ov_lss rfl rfl) rfl rfl rfl ?_
          refine q_nil ?_
          refine k_then ?_
          refine wc_cond_d rfl (fun hc7 => ?_) (fun hc7 => ?_)
          · have hjn : j < n := by omega
            rw [rep_succ hjn] at hdec
            have hrl : (0 :: List.replicate (n - (j + 1)) (0 : UInt8)).length ≤ 4 := by simp; omega
            refine q_skip ?_
            refine k_then ?_
            refine wc_seq ?_
            refine wc_block ?_
            refine wc_seq ?_
            refine wc_regionL ?_
            refine wl_val (ov_move rfl) rfl rfl rfl ?_
            refine wl_step (or_call0 cl39 rfl rfl (dneed_ok _ w.heap.size gn19 D53 100 false (0 :: List.replicate (n - (j + 1)) 0) hdec (by first | omega | (simp; done)))) rfl rfl rfl ?_
            rintro v w206 ⟨rfl, he61⟩
            replace hdec := hdec.ext he61
            replace hb_g8 := hb_g8.ext he61
            replace hrx := hrx.ext he61
            replace hrz := hrz.ext he61
            replace hE := hE.tr he61
            replace hrp := hrp.ext he61
            have hz_he61 := he61.size
            refine wl_val (ov_neq rfl rfl) rfl rfl rfl ?_
            refine wl_spell (d := 62) rfl (bf (by rw [dneed_z0 (by decide)]; decide)) ?_
            refine wl_val (ov_move rfl) rfl rfl rfl ?_
            refine wl_gval (ov_move rfl) rfl rfl rfl rfl rfl ?_
            refine wl_gval (ov_build (cs := [(.int .u8 0), (.slice none 0 0)]) ze72 pl72 rfl rfl) rfl rfl rfl rfl rfl ?_
            refine wl_gstep (or_call0 cl40 rfl rfl (lnext_ok _ w.heap.size gn19 D53 100 false (0 :: List.replicate (n - (j + 1)) 0) hdec (by first | omega | (simp; done)) _ _ (0) _ _ [] (RdB.nil _ 0 0) (by omega) (by omega) (fun x e => by have := hDs x e; omega) 6 (by rw [dnext_z0 (by decide)]) (by rw [dnext_z0 (by decide)]; rfl))) rfl rfl rfl rfl rfl ?_
            rintro v w207 ⟨rfl, hb66, hC66⟩
            have hDa66 : ∀ x, D53 = some x → (x ≠ g8 ∧ w.heap.size ≤ x ∧ x < wr.heap.size) ∧ x < w206.heap.size := fun x e => ⟨hDs x e, (hdec.lt.2 x e).2⟩
            have hz_hC66 := hC66.size
            replace hb_g8 := hC66.bk hb_g8 (by omega) (fun e2 => by have := hDa66 _ e2; omega)
            replace hrx := hC66.rd hrx (by omega) (fun x e => by have := hDa66 x e; omega)
            replace hrz := hC66.rd hrz (by omega) (fun x e => by have := hDa66 x e; omega)
            replace hE := hC66.e0 hE (by omega) (fun x e => by have := hDa66 x e; omega)
            replace hrp := hC66.rd hrp (by omega) (fun x e => by have := hDa66 x e; omega)
            rw [dnext_z0 (by decide)] at hb66
            replace hb66 : Dec _ w.heap.size gn19 D53 100 false (List.replicate (n - (j + 1)) 0) := hb66
            have hzb66 := hb66.lt.1
            have hcp66 := hb66.cap
            refine wl_gval (ov_not (b := true) rfl) rfl rfl rfl rfl rfl ?_
            refine wl_val (ov_pick_f rfl rfl) rfl rfl rfl ?_
            refine q_nil ?_
            refine k_then ?_
            refine wc_cond_f rfl ?_
            refine q_skip ?_
            refine k_block ?_
            refine k_then ?_
            refine wc_regionL ?_
            refine wl_val (ov_move rfl) rfl rfl rfl ?_
            refine wl_val (ov_add rfl rfl (wi64 (by omega) (by omega))) rfl rfl rfl ?_
            refine wl_val (ov_assign rfl) rfl rfl rfl ?_
            refine q_nil ?_
            refine k_loop (j + 1) (by show n - (j + 1) < n - j; omega) (⟨rfl, rfl, rfl, rfl, rfl, rfl, rfl, rfl, trivial⟩) (⟨by omega, hb66, hb_g8, hrx, hrz, hE⟩)
          · have hjn : j = n := by omega
            subst hjn
            rw [Nat.sub_self] at hdec
            replace hdec : Dec wr w.heap.size gn19 D53 100 false [] := hdec
            refine q_exit ?_
            refine k_thenX ?_
            refine k_thenX ?_
            refine k_blockE ?_
            refine k_then ?_
            refine wc_seq ?_
            refine wc_regionL ?_
            refine wl_val (ov_loadBlk (cs := [(.int .u8 (↑x.toNat : Int)), (.slice Ap p.length cp)]) ag72_2 rfl hb_g8) rfl rfl rfl ?_
            refine wl_step (or_call0 cl41 rfl rfl (rfwrite_any _ _ _ (x) _ _ p hrp (by omega))) rfl rfl rfl ?_
            rintro v w206 ⟨A71, c71, rfl, ho71, he71⟩
            replace hdec := hdec.ext he71
            replace hb_g8 := hb_g8.ext he71
            replace hrx := hrx.ext he71
            replace hrz := hrz.ext he71
            replace hE := hE.tr he71
            replace hrp := hrp.ext he71
            have hz_he71 := he71.size
            have hq_ho71 := fun g e => Own.lt ho71 (g := g) e
            have hel := enc_len (p.length + 1)
            obtain ⟨W, hW⟩ : ∃ W, W = enc (p.length + 1) ++ [x] ++ p := ⟨_, rfl⟩
            have hfw : fwrite (x) p = (W, 0) := by rw [hW]; exact fwrite_short (by omega)
            have hWl : W.length = (enc (p.length + 1)).length + (p.length + 1) := by rw [hW]; simp
            rw [hfw] at ho71
            refine wl_spell (d := 71) rfl (v' := .tuple #[.slice A71 W.length c71, .int .i64 0]) (by rw [hfw]; rfl) ?_
            have hrw := (OwnB.rd ho71).top
            obtain ⟨b71, hb71⟩ : ∃ n, n = wr.heap.size := ⟨_, rfl⟩
            obtain ⟨h71, hh71⟩ : ∃ n, n = w206.heap.size := ⟨_, rfl⟩
            rw [← hb71, ← hh71] at hrw
            refine wl_val (ov_move rfl) rfl rfl rfl ?_
            refine wl_val (ov_extract rfl rfl) rfl rfl rfl ?_
            refine wl_val (ov_extract rfl rfl) rfl rfl rfl ?_
            refine wl_val (ov_assign rfl) rfl rfl rfl ?_
            refine wl_val (ov_assign rfl) rfl rfl rfl ?_
            refine q_nil ?_
            refine k_then ?_
            refine wc_seq ?_
            refine wc_seq ?_
            refine wc_regionL ?_
            refine wl_val (ov_assign rfl) rfl rfl rfl ?_
            refine q_nil ?_
            refine k_then ?_
            refine wc_block ?_
            have hsD : ∀ x, D53 = some x → x ≠ g8 ∧ (x < b71 ∨ h71 ≤ x) := fun x e => by have := hDs x e; omega
            refine wc_loop (σ := Nat × Option Nat) (fun s => W.length - s.1) (fun s => [(1, .slice Z z.length cz), (5, .pointer (some ⟨gn19, 0, none⟩)), (28, .slice C xs.length cx), (29, .int .i64 (xs.length : Int)), (30, .int .i64 (k : Int)), (8, .pointer (some ⟨g8, 0, none⟩)), (11, .slice A71 W.length c71), (13, .int .i64 (s.1 : Int))]) (fun s w' => s.1 ≤ W.length ∧ Dec w' w.heap.size gn19 s.2 100 false (W.take s.1) ∧ (∀ x, s.2 = some x → x ≠ g8 ∧ (x < b71 ∨ h71 ≤ x)) ∧ RdB w' b71 h71 A71 c71 W ∧ h71 ≤ w'.heap.size ∧ Blk w' g8 72 [.int .u8 (x.toNat : Int), .slice Ap p.length cp] ∧ RdR w' lox w.heap.size 2 fr6c C cx xs ∧ RdB w' loz w.heap.size Z cz z ∧ Ext w w') ((0, D53)) (⟨Nat.zero_le _, hdec, hsD, hrw, by omega, hb_g8, hrx, hrz, hE⟩) (⟨rfl, rfl, rfl, rfl, rfl, rfl, rfl, rfl, trivial⟩) ?_
            rintro ⟨j, D⟩ wt ⟨hj0, hdec, hsD, hrw, hhw, hb_g8, hrx, hrz, hE⟩
            show WC _ _ _ _ [(1, (.slice Z z.length cz)), (5, (.pointer (some ⟨gn19, 0, none⟩))), (28, (.slice C xs.length cx)), (29, (.int .i64 (↑xs.length : Int))), (30, (.int .i64 (↑k : Int))), (8, (.pointer (some ⟨g8, 0, none⟩))), (11, (.slice A71 W.length c71)), (13, (.int .i64 (↑j : Int)))] _
            replace hj0 : j ≤ W.length := hj0
            replace hsD : ∀ x, D = some x → x ≠ g8 ∧ (x < b71 ∨ h71 ≤ x) := hsD
            replace hdec : Dec wt w.heap.size gn19 D 100 false (W.take j) := hdec
            have hz_E := hE.size
            have hzb := hdec.lt.1
            have hg8l := hb_g8.lt
            have hDs : ∀ x, D = some x → (x ≠ g8 ∧ (x < b71 ∨ h71 ≤ x)) ∧ w.heap.size ≤ x ∧ x < wt.heap.size := fun x e => ⟨hsD x e, hdec.lt.2 x e⟩
            have hrp : RdB _ 0 w.heap.size Ap cp p := (hQ _ hxm).ext hE
            have hWt : (W.take j).length = j := by rw [List.length_take]; omega
            refine wc_seq ?_
            refine wc_seq ?_
            refine wc_regionL ?_
            refine wl_val (ov_move rfl) rfl rfl rfl ?_
            refine wl_val (ov_move rfl) rfl rfl rfl ?_
            refine wl_val (ov_len Try.underlying26 rfl) rfl rfl rfl ?_
            refine wl_val (ov_lss rfl rfl) rfl rfl rfl ?_
            refine q_nil ?_
            refine k_then ?_
            refine wc_cond_d rfl (fun hc9 => ?_) (fun hc9 => ?_)
            · have hnd := dneed_cut (x := x) (p := p) (m := 100) (j := j) (by omega) (by decide) (by rw [← hW]; omega)
              have hnx := dnext_cut (x := x) (p := p) (m := 100) (j := j) (by omega) (by decide) (by rw [← hW]; omega)
              rw [← hW] at hnd hnx
              refine q_skip ?_
              refine k_then ?_
              refine wc_seq ?_
              refine wc_block ?_
              refine wc_seq ?_
              refine wc_regionL ?_
              refine wl_val (ov_move rfl) rfl rfl rfl ?_
              refine wl_step (or_call0 cl39 rfl rfl (dneed_ok _ w.heap.size gn19 D 100 false (W.take j) hdec (by first | omega | (simp; done)))) rfl rfl rfl ?_
              rintro v w207 ⟨rfl, he81⟩
              replace hdec := hdec.ext he81
              replace hrw := hrw.ext he81
              replace hb_g8 := hb_g8.ext he81
              replace hrx := hrx.ext he81
              replace hrz := hrz.ext he81
              replace hE := hE.tr he81
              replace hrp := hrp.ext he81
              have hz_he81 := he81.size
              refine wl_val (ov_lss rfl rfl) rfl rfl rfl ?_
              refine wl_spell (d := 82) rfl (bf (by omega)) ?_
              refine wl_val (ov_move rfl) rfl rfl rfl ?_
              refine wl_gval (ov_move rfl) rfl rfl rfl rfl rfl ?_
              refine wl_gstep (or_call0 cl39 rfl rfl (dneed_ok _ w.heap.size gn19 D 100 false (W.take j) hdec (by first | omega | (simp; done)))) rfl rfl rfl rfl rfl ?_
              rintro v w208 ⟨rfl, he85⟩
              replace hdec := hdec.ext he85
              replace hrw := hrw.ext he85
              replace hb_g8 := hb_g8.ext he85
              replace hrx := hrx.ext he85
              replace hrz := hrz.ext he85
              replace hE := hE.tr he85
              replace hrp := hrp.ext he85
              have hz_he85 := he85.size
              refine wl_gval (ov_move rfl) rfl rfl rfl rfl rfl ?_
              refine wl_gval (ov_len Try.underlying26 rfl) rfl rfl rfl rfl rfl ?_
              refine wl_gval (ov_move rfl) rfl rfl rfl rfl rfl ?_
              refine wl_gval (ov_sub rfl rfl (wi64 (by omega) (by omega))) rfl rfl rfl rfl rfl ?_
              refine wl_gval (ov_gtr rfl rfl) rfl rfl rfl rfl rfl ?_
              refine wl_spell (d := 90) rfl (bf (by omega)) ?_
              refine wl_val (ov_pick_f rfl rfl) rfl rfl rfl ?_
              refine wl_val (ov_move rfl) rfl rfl rfl ?_
              refine wl_gval (ov_move rfl) rfl rfl rfl rfl rfl ?_
              refine wl_gval (ov_build (cs := [(.int .u8 0), (.slice none 0 0)]) ze72 pl72 rfl rfl) rfl rfl rfl rfl rfl ?_
              refine wl_gstep (or_call0 cl40 rfl rfl (lnext_ok _ w.heap.size gn19 D 100 false (W.take j) hdec (by first | omega | (simp; done)) _ _ (0) _ _ [] (RdB.nil _ 0 0) (by omega) (by omega) (fun x e => by have := hDs x e; omega) 4 (by rw [hnx]) (by rw [hnx]; rfl))) rfl rfl rfl rfl rfl ?_
              rintro v w209 ⟨rfl, hb95, hC95⟩
              have hDa95 : ∀ x, D = some x → ((x ≠ g8 ∧ (x < b71 ∨ h71 ≤ x)) ∧ w.heap.size ≤ x ∧ x < wt.heap.size) ∧ x < w208.heap.size := fun x e => ⟨hDs x e, (hdec.lt.2 x e).2⟩
              have hz_hC95 := hC95.size
              replace hrw := hC95.rd hrw (by omega) (fun x e => by have := hDa95 x e; omega)
              replace hb_g8 := hC95.bk hb_g8 (by omega) (fun e2 => by have := hDa95 _ e2; omega)
              replace hrx := hC95.rd hrx (by omega) (fun x e => by have := hDa95 x e; omega)
              replace hrz := hC95.rd hrz (by omega) (fun x e => by have := hDa95 x e; omega)
              replace hE := hC95.e0 hE (by omega) (fun x e => by have := hDa95 x e; omega)
              replace hrp := hC95.rd hrp (by omega) (fun x e => by have := hDa95 x e; omega)
              rw [hnx] at hb95
              replace hb95 : Dec _ w.heap.size gn19 D 100 false (W.take j) := hb95
              have hzb95 := hb95.lt.1
              have hcp95 := hb95.cap
              refine wl_gval (ov_not (b := true) rfl) rfl rfl rfl rfl rfl ?_
              refine wl_val (ov_pick_f rfl rfl) rfl rfl rfl ?_
              refine wl_val (ov_move rfl) rfl rfl rfl ?_
              refine wl_gval (ov_move rfl) rfl rfl rfl rfl rfl ?_
              refine wl_gval (ov_move rfl) rfl rfl rfl rfl rfl ?_
              refine wl_gval (ov_move rfl) rfl rfl rfl rfl rfl ?_
              refine wl_gval (ov_move rfl) rfl rfl rfl rfl rfl ?_
              refine wl_gval (ov_add rfl rfl (wi64 (by omega) (by omega))) rfl rfl rfl rfl rfl ?_
              have hcap104 := RdB.cap hrw
              refine wl_gstep (or_bslice bt26 rfl hrw (bounds_lh rfl rfl (by omega) (by omega) (by omega)) (by omega) (by omega) (by omega) (by omega)) rfl rfl rfl rfl rfl ?_
              rintro v _ ⟨rfl, A104, c104, rfl, hr104, hl104⟩
              have hs104 : (W.drop (Int.toNat (↑j : Int))).take ((Int.toNat ((↑j : Int) + 1)) - (Int.toNat (↑j : Int))) = ((W.drop j).take 1) := (by rw [Int.toNat_natCast, show ((j : Int) + 1).toNat - j = 1 by omega])
              rw [hs104] at hr104 hl104; rw [hs104]; clear hs104
              refine wl_gstep (or_call0 cl38 rfl rfl (dfeed_ok _ w.heap.size gn19 D 100 false (W.take j) hb95 (by first | omega | (simp; done)) _ _ _ _ ((W.drop j).take 1) hr104 (by omega) (fun x e => by have := hDs x e; omega) (by omega) (by simp; omega))) rfl rfl rfl rfl rfl ?_
              rintro v w210 ⟨rfl, ⟨D105, hb105, hN105⟩, hC105⟩
              have hDa105 : ∀ x, D = some x → ((x ≠ g8 ∧ (x < b71 ∨ h71 ≤ x)) ∧ w.heap.size ≤ x ∧ x < wt.heap.size) ∧ x < w209.heap.size := fun x e => ⟨hDs x e, (hb95.lt.2 x e).2⟩
              have hz_hC105 := hC105.size
              replace hrw := hC105.rd hrw (by omega) (fun x e => by have := hDa105 x e; omega)
              replace hb_g8 := hC105.bk hb_g8 (by omega) (fun e2 => by have := hDa105 _ e2; omega)
              replace hrx := hC105.rd hrx (by omega) (fun x e => by have := hDa105 x e; omega)
              replace hrz := hC105.rd hrz (by omega) (fun x e => by have := hDa105 x e; omega)
              replace hE := hC105.e0 hE (by omega) (fun x e => by have := hDa105 x e; omega)
              replace hrp := hC105.rd hrp (by omega) (fun x e => by have := hDa105 x e; omega)
              replace hr104 := hC105.rd hr104 (by omega) (fun x e => by have := hDa105 x e; omega)
              rw [show dfeed false (W.take j) ((W.drop j).take 1) = W.take (j + 1) from take_one] at hb105
              replace hb105 : Dec _ w.heap.size gn19 D105 100 false (W.take (j + 1)) := hb105
              have hDs105 : ∀ x, D105 = some x → (((x ≠ g8 ∧ (x < b71 ∨ h71 ≤ x)) ∧ w.heap.size ≤ x ∧ x < wt.heap.size) ∨ w209.heap.size ≤ x) ∧ x < w210.heap.size := fun x e => ⟨(hN105 x e).imp (fun h => hDs x h) id, (hb105.lt.2 x e).2⟩
              have hzb105 := hb105.lt.1
              have hcp105 := hb105.cap
              refine wl_gval (ov_neq rfl rfl) rfl rfl rfl rfl rfl ?_
              refine wl_spell (d := 106) rfl (bf (by decide)) ?_
              refine wl_val (ov_pick_f rfl rfl) rfl rfl rfl ?_
              refine q_nil ?_
              refine k_then ?_
              refine wc_cond_f rfl ?_
              refine q_skip ?_
              refine k_block ?_
              refine k_then ?_
              refine wc_regionL ?_
              refine wl_val (ov_move rfl) rfl rfl rfl ?_
              refine wl_val (ov_add rfl rfl (wi64 (by omega) (by omega))) rfl rfl rfl ?_
              refine wl_val (ov_assign rfl) rfl rfl rfl ?_
              refine q_nil ?_
              refine k_loop ((j + 1, D105)) (by show W.length - (j + 1) < W.length - j; omega) (⟨rfl, rfl, rfl, rfl, rfl, rfl, rfl, rfl, trivial⟩) (⟨by show j + 1 ≤ _; omega, hb105, (fun x e => by have := hDs105 x e; omega), hrw, by omega, hb_g8, hrx, hrz, hE⟩)
            · have hjW : W.take j = W := List.take_of_length_le (by omega)
              rw [hjW] at hdec
              have hnd := dneed_wire (x := x) (p := p) (m := 100) (by omega) (by decide)
              have hnx := dnext_wire (x := x) (p := p) (m := 100) (by omega) (by decide)
              rw [← hW] at hnd hnx
              refine q_exit ?_
              refine k_thenX ?_
              refine k_thenX ?_
              refine k_blockE ?_
              refine k_then ?_
              refine wc_seq ?_
              refine wc_regionL ?_
              refine wl_val (ov_move rfl) rfl rfl rfl ?_
              refine wl_step (or_call0 cl39 rfl rfl (dneed_ok _ w.heap.size gn19 D 100 false W hdec (by first | omega | (simp; done)))) rfl rfl rfl ?_
              rintro v w207 ⟨rfl, he109⟩
              replace hdec := hdec.ext he109
              replace hrw := hrw.ext he109
              replace hb_g8 := hb_g8.ext he109
              replace hrx := hrx.ext he109
              replace hrz := hrz.ext he109
              replace hE := hE.tr he109
              replace hrp := hrp.ext he109
              have hz_he109 := he109.size
              refine wl_val (ov_neq rfl rfl) rfl rfl rfl ?_
              refine wl_spell (d := 110) rfl (bf (by rw [hnd]; decide)) ?_
              refine wl_val (ov_move rfl) rfl rfl rfl ?_
              refine wl_gval (ov_move rfl) rfl rfl rfl rfl rfl ?_
              refine wl_gval (ov_loadBlk (cs := [(.int .u8 (↑x.toNat : Int)), (.slice Ap p.length cp)]) ag72_2 rfl hb_g8) rfl rfl rfl rfl rfl ?_
              refine wl_gstep (or_call0 cl40 rfl rfl (lnext_ok _ w.heap.size gn19 D 100 false W hdec (by first | omega | (simp; done)) _ _ (x) _ _ p hrp (by omega) (by omega) (fun x e => by have := hDs x e; omega) 0 (by rw [hnx]) (by rw [hnx]; rfl))) rfl rfl rfl rfl rfl ?_
              rintro v w208 ⟨rfl, hb114, hC114⟩
              have hDa114 : ∀ x, D = some x → ((x ≠ g8 ∧ (x < b71 ∨ h71 ≤ x)) ∧ w.heap.size ≤ x ∧ x < wt.heap.size) ∧ x < w207.heap.size := fun x e => ⟨hDs x e, (hdec.lt.2 x e).2⟩
              have hz_hC114 := hC114.size
              replace hrw := hC114.rd hrw (by omega) (fun x e => by have := hDa114 x e; omega)
              replace hb_g8 := hC114.bk hb_g8 (by omega) (fun e2 => by have := hDa114 _ e2; omega)
              replace hrx := hC114.rd hrx (by omega) (fun x e => by have := hDa114 x e; omega)
              replace hrz := hC114.rd hrz (by omega) (fun x e => by have := hDa114 x e; omega)
              replace hE := hC114.e0 hE (by omega) (fun x e => by have := hDa114 x e; omega)
              replace hrp := hC114.rd hrp (by omega) (fun x e => by have := hDa114 x e; omega)
              rw [hnx] at hb114
              replace hb114 : Dec _ w.heap.size gn19 D 100 false ([] : List UInt8) := hb114
              have hzb114 := hb114.lt.1
              have hcp114 := hb114.cap
              refine wl_gval (ov_not (b := true) rfl) rfl rfl rfl rfl rfl ?_
              refine wl_val (ov_pick_f rfl rfl) rfl rfl rfl ?_
              refine wl_val (ov_move rfl) rfl rfl rfl ?_
              refine wl_gval (ov_move rfl) rfl rfl rfl rfl rfl ?_
              refine wl_gstep (or_call0 cl42 rfl rfl (dheld_ok _ w.heap.size gn19 D 100 false ([] : List UInt8) hb114 (by first | omega | (simp; done)))) rfl rfl rfl rfl rfl ?_
              rintro v w209 ⟨rfl, he119⟩
              replace hrw := hrw.ext he119
              replace hb_g8 := hb_g8.ext he119
              replace hrx := hrx.ext he119
              replace hrz := hrz.ext he119
              replace hE := hE.tr he119
              replace hrp := hrp.ext he119
              replace hb114 := hb114.ext he119
              have hz_he119 := he119.size
              refine wl_gval (ov_neq rfl rfl) rfl rfl rfl rfl rfl ?_
              refine wl_spell (d := 120) rfl (bf (by decide)) ?_
              refine wl_val (ov_pick_f rfl rfl) rfl rfl rfl ?_
              refine q_nil ?_
              refine k_then ?_
              refine wc_cond_f rfl ?_
              refine q_skip ?_
              refine k_block ?_
              refine k_then ?_
              refine wc_regionL ?_
              refine wl_val (ov_add rfl rfl (wi64 (by omega) (by omega))) rfl rfl rfl ?_
              refine wl_val (ov_move rfl) rfl rfl rfl ?_
              refine q_nil ?_
              refine k_loop ((k + 1, D)) (by show xs.length - (k + 1) < xs.length - k; omega) (⟨rfl, rfl, rfl, rfl, rfl, trivial⟩) (⟨by show k + 1 ≤ _; omega, hb114, hrx, hrz, hE⟩)
        · obtain ⟨n, hn, hn3⟩ : ∃ n : Nat, (0 : Int) = (n : Int) ∧ n ≤ 3 := ⟨0, rfl, by omega⟩
          refine q_skip ?_
          refine k_then ?_
          refine wc_seq ?_
          refine wc_seq ?_
          refine wc_regionL ?_
          refine wl_spell (d := 9) rfl (v' := .int .i64 (n : Int)) (by rw [hn]) ?_
          refine wl_val (ov_move rfl) rfl rfl rfl ?_
          refine wl_val (ov_move rfl) rfl rfl rfl ?_
          refine wl_step (or_makeBytes (n := n) bt26 rfl rfl (by omega) (by omega)) rfl rfl rfl ?_
          rintro v w204 ⟨A52, c52, rfl, ho52, he52⟩
          replace hdec := hdec.ext he52
          replace hrx := hrx.ext he52
          replace hrz := hrz.ext he52
          replace hE := hE.tr he52
          replace hrp := hrp.ext he52
          replace hb_g8 := hb_g8.ext he52
          have hz_he52 := he52.size
          have hq_ho52 := fun g e => Own.lt ho52 (g := g) e
          refine wl_step (or_call0 cl38 rfl rfl (dfeed_ok _ w.heap.size gn19 D 100 false ([] : List UInt8) hdec (by first | omega | (simp; done)) _ _ _ _ (List.replicate n 0) (OwnB.rd ho52) (by omega) (fun x e => by have := hDs x e; omega) (by omega) (by simp; omega))) rfl rfl rfl ?_
          rintro v w205 ⟨rfl, ⟨D53, hb53, hN53⟩, hC53⟩
          have hDa53 : ∀ x, D = some x → (w.heap.size ≤ x ∧ x < wq.heap.size) ∧ x < w204.heap.size := fun x e => ⟨hDs x e, (hdec.lt.2 x e).2⟩
          have hz_hC53 := hC53.size
          replace hrx := hC53.rd hrx (by omega) (fun x e => by have := hDa53 x e; omega)
          replace hrz := hC53.rd hrz (by omega) (fun x e => by have := hDa53 x e; omega)
          replace hE := hC53.e0 hE (by omega) (fun x e => by have := hDa53 x e; omega)
          replace hrp := hC53.rd hrp (by omega) (fun x e => by have := hDa53 x e; omega)
          replace hb_g8 := hC53.bk hb_g8 (by omega) (fun e2 => by have := hDa53 _ e2; omega)
          replace ho52 := hC53.own ho52 (fun x e => by first | exact ⟨by have := hq_ho52 x e; omega, fun e2 => by have h1 := hq_ho52 x e; have h2 := hDa53 x e2; omega⟩)
          replace hb53 : Dec _ w.heap.size gn19 D53 100 false (List.replicate n 0) := hb53
          have hDs53 : ∀ x, D53 = some x → ((w.heap.size ≤ x ∧ x < wq.heap.size) ∨ w204.heap.size ≤ x) ∧ x < w205.heap.size := fun x e => ⟨(hN53 x e).imp (fun h => hDs x h) id, (hb53.lt.2 x e).2⟩
          have hzb53 := hb53.lt.1
          have hcp53 := hb53.cap
          refine wl_val (ov_neq rfl rfl) rfl rfl rfl ?_
          refine wl_spell (d := 54) rfl (bf (by decide)) ?_
          refine q_nil ?_
          refine k_then ?_
          refine wc_cond_f rfl ?_
          refine q_skip ?_
          refine k_then ?_
          refine wc_seq ?_
          refine wc_seq ?_
          refine wc_regionL ?_
          refine wl_val (ov_assign rfl) rfl rfl rfl ?_
          refine q_nil ?_
          refine k_then ?_
          refine wc_block ?_
          refine wc_loop (σ := Nat) (fun s => n - s) (fun s => [(1, .slice Z z.length cz), (5, .pointer (some ⟨gn19, 0, none⟩)), (28, .slice C xs.length cx), (29, .int .i64 (xs.length : Int)), (30, .int .i64 (k : Int)), (8, .pointer (some ⟨g8, 0, none⟩)), (9, .int .i64 (n : Int)), (10, .int .i64 (s : Int))]) (fun s w' => s ≤ n ∧ Dec w' w.heap.size gn19 D53 100 false (List.replicate (n - s) 0) ∧ Blk w' g8 72 [.int .u8 (x.toNat : Int), .slice Ap p.length cp] ∧ RdR w' lox w.heap.size 2 fr6c C cx xs ∧ RdB w' loz w.heap.size Z cz z ∧ Ext w w') (0) (⟨Nat.zero_le _, hb53, hb_g8, hrx, hrz, hE⟩) (⟨rfl, rfl, rfl, rfl, rfl, rfl, rfl, rfl, trivial⟩) ?_
          rintro j wr ⟨hj0, hdec, hb_g8, hrx, hrz, hE⟩
          show WC _ _ _ _ [(1, (.slice Z z.length cz)), (5, (.pointer (some ⟨gn19, 0, none⟩))), (28, (.slice C xs.length cx)), (29, (.int .i64 (↑xs.length : Int))), (30, (.int .i64 (↑k : Int))), (8, (.pointer (some ⟨g8, 0, none⟩))), (9, (.int .i64 (↑n : Int))), (10, (.int .i64 (↑j : Int)))] _
          have hz_E := hE.size
          have hzb := hdec.lt.1
          have hg8l := hb_g8.lt
          have hDs : ∀ x, D53 = some x → x ≠ g8 ∧ w.heap.size ≤ x ∧ x < wr.heap.size := fun x e => ⟨by have := hDs53 x e; omega, hdec.lt.2 x e⟩
          have hrp : RdB _ 0 w.heap.size Ap cp p := (hQ _ hxm).ext hE
          refine wc_seq ?_
          refine wc_seq ?_
          refine wc_regionL ?_
          refine wl_val (ov_move rfl) rfl rfl rfl ?_
          refine wl_val (ov_move rfl) rfl rfl rfl ?_
          refine wl_val (ov_lss rfl rfl) rfl rfl rfl ?_
          refine q_nil ?_
          refine k_then ?_
          refine wc_cond_d rfl (fun hc7 => ?_) (fun hc7 => ?_)
          · have hjn : j < n := by omega
            rw [rep_succ hjn] at hdec
            have hrl : (0 :: List.replicate (n - (j + 1)) (0 : UInt8)).length ≤ 4 := by simp; omega
            refine q_skip ?_
            refine k_then ?_
            refine wc_seq ?_
            refine wc_block ?_
            refine wc_seq ?_
            refine wc_regionL ?_
            refine wl_val (ov_move rfl) rfl rfl rfl ?_
            refine wl_step (or_call0 cl39 rfl rfl (dneed_ok _ w.heap.size gn19 D53 100 false (0 :: List.replicate (n - (j + 1)) 0) hdec (by first | omega | (simp; done)))) rfl rfl rfl ?_
            rintro v w206 ⟨rfl, he61⟩
            replace hdec := hdec.ext he61
            replace hb_g8 := hb_g8.ext he61
            replace hrx := hrx.ext he61
            replace hrz := hrz.ext he61
            replace hE := hE.tr he61
            replace hrp := hrp.ext he61
            have hz_he61 := he61.size
            refine wl_val (ov_neq rfl rfl) rfl rfl rfl ?_
            refine wl_spell (d := 62) rfl (bf (by rw [dneed_z0 (by decide)]; decide)) ?_
            refine wl_val (ov_move rfl) rfl rfl rfl ?_
            refine wl_gval (ov_move rfl) rfl rfl rfl rfl rfl ?_
            refine wl_gval (ov_build (cs := [(.int .u8 0), (.slice none 0 0)]) ze72 pl72 rfl rfl) rfl rfl rfl rfl rfl ?_
            refine wl_gstep (or_call0 cl40 rfl rfl (lnext_ok _ w.heap.size gn19 D53 100 false (0 :: List.replicate (n - (j + 1)) 0) hdec (by first | omega | (simp; done)) _ _ (0) _ _ [] (RdB.nil _ 0 0) (by omega) (by omega) (fun x e => by have := hDs x e; omega) 6 (by rw [dnext_z0 (by decide)]) (by rw [dnext_z0 (by decide)]; rfl))) rfl rfl rfl rfl rfl ?_
            rintro v w207 ⟨rfl, hb66, hC66⟩
            have hDa66 : ∀ x, D53 = some x → (x ≠ g8 ∧ w.heap.size ≤ x ∧ x < wr.heap.size) ∧ x < w206.heap.size := fun x e => ⟨hDs x e, (hdec.lt.2 x e).2⟩
            have hz_hC66 := hC66.size
            replace hb_g8 := hC66.bk hb_g8 (by omega) (fun e2 => by have := hDa66 _ e2; omega)
            replace hrx := hC66.rd hrx (by omega) (fun x e => by have := hDa66 x e; omega)
            replace hrz := hC66.rd hrz (by omega) (fun x e => by have := hDa66 x e; omega)
            replace hE := hC66.e0 hE (by omega) (fun x e => by have := hDa66 x e; omega)
            replace hrp := hC66.rd hrp (by omega) (fun x e => by have := hDa66 x e; omega)
            rw [dnext_z0 (by decide)] at hb66
            replace hb66 : Dec _ w.heap.size gn19 D53 100 false (List.replicate (n - (j + 1)) 0) := hb66
            have hzb66 := hb66.lt.1
            have hcp66 := hb66.cap
            refine wl_gval (ov_not (b := true) rfl) rfl rfl rfl rfl rfl ?_
            refine wl_val (ov_pick_f rfl rfl) rfl rfl rfl ?_
            refine q_nil ?_
            refine k_then ?_
            refine wc_cond_f rfl ?_
            refine q_skip ?_
            refine k_block ?_
            refine k_then ?_
            refine wc_regionL ?_
            refine wl_val (ov_move rfl) rfl rfl rfl ?_
            refine wl_val (ov_add rfl rfl (wi64 (by omega) (by omega))) rfl rfl rfl ?_
            refine wl_val (ov_assign rfl) rfl rfl rfl ?_
            refine q_nil ?_
            refine k_loop (j + 1) (by show n - (j + 1) < n - j; omega) (⟨rfl, rfl, rfl, rfl, rfl, rfl, rfl, rfl, trivial⟩) (⟨by omega, hb66, hb_g8, hrx, hrz, hE⟩)
          · have hjn : j = n := by omega
            subst hjn
            rw [Nat.sub_self] at hdec
            replace hdec : Dec wr w.heap.size gn19 D53 100 false [] := hdec
            refine q_exit ?_
            refine k_thenX ?_
            refine k_thenX ?_
            refine k_blockE ?_
            refine k_then ?_
            refine wc_seq ?_
            refine wc_regionL ?_
            refine wl_val (ov_loadBlk (cs := [(.int .u8 (↑x.toNat : Int)), (.slice Ap p.length cp)]) ag72_2 rfl hb_g8) rfl rfl rfl ?_
            refine wl_step (or_call0 cl41 rfl rfl (rfwrite_any _ _ _ (x) _ _ p hrp (by omega))) rfl rfl rfl ?_
            rintro v w206 ⟨A71, c71, rfl, ho71, he71⟩
            replace hdec := hdec.ext he71
            replace hb_g8 := hb_g8.ext he71
            replace hrx := hrx.ext he71
            replace hrz := hrz.ext he71
            replace hE := hE.tr he71
            replace hrp := hrp.ext he71
            have hz_he71 := he71.size
            have hq_ho71 := fun g e => Own.lt ho71 (g := g) e
            have hel := enc_len (p.length + 1)
            obtain ⟨W, hW⟩ : ∃ W, W = enc (p.length + 1) ++ [x] ++ p := ⟨_, rfl⟩
            have hfw : fwrite (x) p = (W, 0) := by rw [hW]; exact fwrite_short (by omega)
            have hWl : W.length = (enc (p.length + 1)).length + (p.length + 1) := by rw [hW]; simp
            rw [hfw] at ho71
            refine wl_spell (d := 71) rfl (v' := .tuple #[.slice A71 W.length c71, .int .i64 0]) (by rw [hfw]; rfl) ?_
            have hrw := (OwnB.rd ho71).top
            obtain ⟨b71, hb71⟩ : ∃ n, n = wr.heap.size := ⟨_, rfl⟩
            obtain ⟨h71, hh71⟩ : ∃ n, n = w206.heap.size := ⟨_, rfl⟩
            rw [← hb71, ← hh71] at hrw
            refine wl_val (ov_move rfl) rfl rfl rfl ?_
            refine wl_val (ov_extract rfl rfl) rfl rfl rfl ?_
            refine wl_val (ov_extract rfl rfl) rfl rfl rfl ?_
            refine wl_val (ov_assign rfl) rfl rfl rfl ?_
            refine wl_val (ov_assign rfl) rfl rfl rfl ?_
            refine q_nil ?_
            refine k_then ?_
            refine wc_seq ?_
            refine wc_seq ?_
            refine wc_regionL ?_
            refine wl_val (ov_assign rfl) rfl rfl rfl ?_
            refine q_nil ?_
            refine k_then ?_
            refine wc_block ?_
            have hsD : ∀ x, D53 = some x → x ≠ g8 ∧ (x < b71 ∨ h71 ≤ x) := fun x e => by have := hDs x e; omega
            refine wc_loop (σ := Nat × Option Nat) (fun s => W.length - s.1) (fun s => [(1, .slice Z z.length cz), (5, .pointer (some ⟨gn19, 0, none⟩)), (28, .slice C xs.length cx), (29, .int .i64 (xs.length : Int)), (30, .int .i64 (k : Int)), (8, .pointer (some ⟨g8, 0, none⟩)), (11, .slice A71 W.length c71), (13, .int .i64 (s.1 : Int))]) (fun s w' => s.1 ≤ W.length ∧ Dec w' w.heap.size gn19 s.2 100 false (W.take s.1) ∧ (∀ x, s.2 = some x → x ≠ g8 ∧ (x < b71 ∨ h71 ≤ x)) ∧ RdB w' b71 h71 A71 c71 W ∧ h71 ≤ w'.heap.size ∧ Blk w' g8 72 [.int .u8 (x.toNat : Int), .slice Ap p.length cp] ∧ RdR w' lox w.heap.size 2 fr6c C cx xs ∧ RdB w' loz w.heap.size Z cz z ∧ Ext w w') ((0, D53)) (⟨Nat.zero_le _, hdec, hsD, hrw, by omega, hb_g8, hrx, hrz, hE⟩) (⟨rfl, rfl, rfl, rfl, rfl, rfl, rfl, rfl, trivial⟩) ?_
            rintro ⟨j, D⟩ wt ⟨hj0, hdec, hsD, hrw, hhw, hb_g8, hrx, hrz, hE⟩
            show WC _ _ _ _ [(1, (.slice Z z.length cz)), (5, (.pointer (some ⟨gn19, 0, none⟩))), (28, (.slice C xs.length cx)), (29, (.int .i64 (↑xs.length : Int))), (30, (.int .i64 (↑k : Int))), (8, (.pointer (some ⟨g8, 0, none⟩))), (11, (.slice A71 W.length c71)), (13, (.int .i64 (↑j : Int)))] _
            replace hj0 : j ≤ W.length := hj0
            replace hsD : ∀ x, D = some x → x ≠ g8 ∧ (x < b71 ∨ h71 ≤ x) := hsD
            replace hdec : Dec wt w.heap.size gn19 D 100 false (W.take j) := hdec
            have hz_E := hE.size
            have hzb := hdec.lt.1
            have hg8l := hb_g8.lt
            have hDs : ∀ x, D = some x → (x ≠ g8 ∧ (x < b71 ∨ h71 ≤ x)) ∧ w.heap.size ≤ x ∧ x < wt.heap.size := fun x e => ⟨hsD x e, hdec.lt.2 x e⟩
            have hrp : RdB _ 0 w.heap.size Ap cp p := (hQ _ hxm).ext hE
            have hWt : (W.take j).length = j := by rw [List.length_take]; omega
            refine wc_seq ?_
            refine wc_seq ?_
            refine wc_regionL ?_
            refine wl_val (ov_move rfl) rfl rfl rfl ?_
            refine wl_val (ov_move rfl) rfl rfl rfl ?_
            refine wl_val (ov_len Try.underlying26 rfl) rfl rfl rfl ?_
            refine wl_val (ov_lss rfl rfl) rfl rfl rfl ?_
            refine q_nil ?_
            refine k_then ?_
            refine wc_cond_d rfl (fun hc9 => ?_) (fun hc9 => ?_)
            · have hnd := dneed_cut (x := x) (p := p) (m := 100) (j := j) (by omega) (by decide) (by rw [← hW]; omega)
              have hnx := dnext_cut (x := x) (p := p) (m := 100) (j := j) (by omega) (by decide) (by rw [← hW]; omega)
              rw [← hW] at hnd hnx
              refine q_skip ?_
              refine k_then ?_
              refine wc_seq ?_
              refine wc_block ?_
              refine wc_seq ?_
              refine wc_regionL ?_
              refine wl_val (ov_move rfl) rfl rfl rfl ?_
              refine wl_step (or_call0 cl39 rfl rfl (dneed_ok _ w.heap.size gn19 D 100 false (W.take j) hdec (by first | omega | (simp; done)))) rfl rfl rfl ?_
              rintro v w207 ⟨rfl, he81⟩
              replace hdec := hdec.ext he81
              replace hrw := hrw.ext he81
              replace hb_g8 := hb_g8.ext he81
              replace hrx := hrx.ext he81
              replace hrz := hrz.ext he81
              replace hE := hE.tr he81
              replace hrp := hrp.ext he81
              have hz_he81 := he81.size
              refine wl_val (ov_lss rfl rfl) rfl rfl rfl ?_
              refine wl_spell (d := 82) rfl (bf (by omega)) ?_
              refine wl_val (ov_move rfl) rfl rfl rfl ?_
              refine wl_gval (ov_move rfl) rfl rfl rfl rfl rfl ?_
              refine wl_gstep (or_call0 cl39 rfl rfl (dneed_ok _ w.heap.size gn19 D 100 false (W.take j) hdec (by first | omega | (simp; done)))) rfl rfl rfl rfl rfl ?_
              rintro v w208 ⟨rfl, he85⟩
              replace hdec := hdec.ext he85
              replace hrw := hrw.ext he85
              replace hb_g8 := hb_g8.ext he85
              replace hrx := hrx.ext he85
              replace hrz := hrz.ext he85
              replace hE := hE.tr he85
              replace hrp := hrp.ext he85
              have hz_he85 := he85.size
              refine wl_gval (ov_move rfl) rfl rfl rfl rfl rfl ?_
              refine wl_gval (ov_len Try.underlying26 rfl) rfl rfl rfl rfl rfl ?_
              refine wl_gval (ov_move rfl) rfl rfl rfl rfl rfl ?_
              refine wl_gval (ov_sub rfl rfl (wi64 (by omega) (by omega))) rfl rfl rfl rfl rfl ?_
              refine wl_gval (ov_gtr rfl rfl) rfl rfl rfl rfl rfl ?_
              refine wl_spell (d := 90) rfl (bf (by omega)) ?_
              refine wl_val (ov_pick_f rfl rfl) rfl rfl rfl ?_
              refine wl_val (ov_move rfl) rfl rfl rfl ?_
              refine wl_gval (ov_move rfl) rfl rfl rfl rfl rfl ?_
              refine wl_gval (ov_build (cs := [(.int .u8 0), (.slice none 0 0)]) ze72 pl72 rfl rfl) rfl rfl rfl rfl rfl ?_
              refine wl_gstep (or_call0 cl40 rfl rfl (lnext_ok _ w.heap.size gn19 D 100 false (W.take j) hdec (by first | omega | (simp; done)) _ _ (0) _ _ [] (RdB.nil _ 0 0) (by omega) (by omega) (fun x e => by have := hDs x e; omega) 4 (by rw [hnx]) (by rw [hnx]; rfl))) rfl rfl rfl rfl rfl ?_
              rintro v w209 ⟨rfl, hb95, hC95⟩
              have hDa95 : ∀ x, D = some x → ((x ≠ g8 ∧ (x < b71 ∨ h71 ≤ x)) ∧ w.heap.size ≤ x ∧ x < wt.heap.size) ∧ x < w208.heap.size := fun x e => ⟨hDs x e, (hdec.lt.2 x e).2⟩
              have hz_hC95 := hC95.size
              replace hrw := hC95.rd hrw (by omega) (fun x e => by have := hDa95 x e; omega)
              replace hb_g8 := hC95.bk hb_g8 (by omega) (fun e2 => by have := hDa95 _ e2; omega)
              replace hrx := hC95.rd hrx (by omega) (fun x e => by have := hDa95 x e; omega)
              replace hrz := hC95.rd hrz (by omega) (fun x e => by have := hDa95 x e; omega)
              replace hE := hC95.e0 hE (by omega) (fun x e => by have := hDa95 x e; omega)
              replace hrp := hC95.rd hrp (by omega) (fun x e => by have := hDa95 x e; omega)
              rw [hnx] at hb95
              replace hb95 : Dec _ w.heap.size gn19 D 100 false (W.take j) := hb95
              have hzb95 := hb95.lt.1
              have hcp95 := hb95.cap
              refine wl_gval (ov_not (b := true) rfl) rfl rfl rfl rfl rfl ?_
              refine wl_val (ov_pick_f rfl rfl) rfl rfl rfl ?_
              refine wl_val (ov_move rfl) rfl rfl rfl ?_
              refine wl_gval (ov_move rfl) rfl rfl rfl rfl rfl ?_
              refine wl_gval (ov_move rfl) rfl rfl rfl rfl rfl ?_
              refine wl_gval (ov_move rfl) rfl rfl rfl rfl rfl ?_
              refine wl_gval (ov_move rfl) rfl rfl rfl rfl rfl ?_
              refine wl_gval (ov_add rfl rfl (wi64 (by omega) (by omega))) rfl rfl rfl rfl rfl ?_
              have hcap104 := RdB.cap hrw
              refine wl_gstep (or_bslice bt26 rfl hrw (bounds_lh rfl rfl (by omega) (by omega) (by omega)) (by omega) (by omega) (by omega) (by omega)) rfl rfl rfl rfl rfl ?_
              rintro v _ ⟨rfl, A104, c104, rfl, hr104, hl104⟩
              have hs104 : (W.drop (Int.toNat (↑j : Int))).take ((Int.toNat ((↑j : Int) + 1)) - (Int.toNat (↑j : Int))) = ((W.drop j).take 1) := (by rw [Int.toNat_natCast, show ((j : Int) + 1).toNat - j = 1 by omega])
              rw [hs104] at hr104 hl104; rw [hs104]; clear hs104
              refine wl_gstep (or_call0 cl38 rfl rfl (dfeed_ok _ w.heap.size gn19 D 100 false (W.take j) hb95 (by first | omega | (simp; done)) _ _ _ _ ((W.drop j).take 1) hr104 (by omega) (fun x e => by have := hDs x e; omega) (by omega) (by simp; omega))) rfl rfl rfl rfl rfl ?_
              rintro v w210 ⟨rfl, ⟨D105, hb105, hN105⟩, hC105⟩
              have hDa105 : ∀ x, D = some x → ((x ≠ g8 ∧ (x < b71 ∨ h71 ≤ x)) ∧ w.heap.size ≤ x ∧ x < wt.heap.size) ∧ x < w209.heap.size := fun x e => ⟨hDs x e, (hb95.lt.2 x e).2⟩
              have hz_hC105 := hC105.size
              replace hrw := hC105.rd hrw (by omega) (fun x e => by have := hDa105 x e; omega)
              replace hb_g8 := hC105.bk hb_g8 (by omega) (fun e2 => by have := hDa105 _ e2; omega)
              replace hrx := hC105.rd hrx (by omega) (fun x e => by have := hDa105 x e; omega)
              replace hrz := hC105.rd hrz (by omega) (fun x e => by have := hDa105 x e; omega)
              replace hE := hC105.e0 hE (by omega) (fun x e => by have := hDa105 x e; omega)
              replace hrp := hC105.rd hrp (by omega) (fun x e => by have := hDa105 x e; omega)
              replace hr104 := hC105.rd hr104 (by omega) (fun x e => by have := hDa105 x e; omega)
              rw [show dfeed false (W.take j) ((W.drop j).take 1) = W.take (j + 1) from take_one] at hb105
              replace hb105 : Dec _ w.heap.size gn19 D105 100 false (W.take (j + 1)) := hb105
              have hDs105 : ∀ x, D105 = some x → (((x ≠ g8 ∧ (x < b71 ∨ h71 ≤ x)) ∧ w.heap.size ≤ x ∧ x < wt.heap.size) ∨ w209.heap.size ≤ x) ∧ x < w210.heap.size := fun x e => ⟨(hN105 x e).imp (fun h => hDs x h) id, (hb105.lt.2 x e).2⟩
              have hzb105 := hb105.lt.1
              have hcp105 := hb105.cap
              refine wl_gval (ov_neq rfl rfl) rfl rfl rfl rfl rfl ?_
              refine wl_spell (d := 106) rfl (bf (by decide)) ?_
              refine wl_val (ov_pick_f rfl rfl) rfl rfl rfl ?_
              refine q_nil ?_
              refine k_then ?_
              refine wc_cond_f rfl ?_
              refine q_skip ?_
              refine k_block ?_
              refine k_then ?_
              refine wc_regionL ?_
              refine wl_val (ov_move rfl) rfl rfl rfl ?_
              refine wl_val (ov_add rfl rfl (wi64 (by omega) (by omega))) rfl rfl rfl ?_
              refine wl_val (ov_assign rfl) rfl rfl rfl ?_
              refine q_nil ?_
              refine k_loop ((j + 1, D105)) (by show W.length - (j + 1) < W.length - j; omega) (⟨rfl, rfl, rfl, rfl, rfl, rfl, rfl, rfl, trivial⟩) (⟨by show j + 1 ≤ _; omega, hb105, (fun x e => by have := hDs105 x e; omega), hrw, by omega, hb_g8, hrx, hrz, hE⟩)
            · have hjW : W.take j = W := List.take_of_length_le (by omega)
              rw [hjW] at hdec
              have hnd := dneed_wire (x := x) (p := p) (m := 100) (by omega) (by decide)
              have hnx := dnext_wire (x := x) (p := p) (m := 100) (by omega) (by decide)
              rw [← hW] at hnd hnx
              refine q_exit ?_
              refine k_thenX ?_
              refine k_thenX ?_
              refine k_blockE ?_
              refine k_then ?_
              refine wc_seq ?_
              refine wc_regionL ?_
              refine wl_val (ov_move rfl) rfl rfl rfl ?_
              refine wl_step (or_call0 cl39 rfl rfl (dneed_ok _ w.heap.size gn19 D 100 false W hdec (by first | omega | (simp; done)))) rfl rfl rfl ?_
              rintro v w207 ⟨rfl, he109⟩
              replace hdec := hdec.ext he109
              replace hrw := hrw.ext he109
              replace hb_g8 := hb_g8.ext he109
              replace hrx := hrx.ext he109
              replace hrz := hrz.ext he109
              replace hE := hE.tr he109
              replace hrp := hrp.ext he109
              have hz_he109 := he109.size
              refine wl_val (ov_neq rfl rfl) rfl rfl rfl ?_
              refine wl_spell (d := 110) rfl (bf (by rw [hnd]; decide)) ?_
              refine wl_val (ov_move rfl) rfl rfl rfl ?_
              refine wl_gval (ov_move rfl) rfl rfl rfl rfl rfl ?_
              refine wl_gval (ov_loadBlk (cs := [(.int .u8 (↑x.toNat : Int)), (.slice Ap p.length cp)]) ag72_2 rfl hb_g8) rfl rfl rfl rfl rfl ?_
              refine wl_gstep (or_call0 cl40 rfl rfl (lnext_ok _ w.heap.size gn19 D 100 false W hdec (by first | omega | (simp; done)) _ _ (x) _ _ p hrp (by omega) (by omega) (fun x e => by have := hDs x e; omega) 0 (by rw [hnx]) (by rw [hnx]; rfl))) rfl rfl rfl rfl rfl ?_
              rintro v w208 ⟨rfl, hb114, hC114⟩
              have hDa114 : ∀ x, D = some x → ((x ≠ g8 ∧ (x < b71 ∨ h71 ≤ x)) ∧ w.heap.size ≤ x ∧ x < wt.heap.size) ∧ x < w207.heap.size := fun x e => ⟨hDs x e, (hdec.lt.2 x e).2⟩
              have hz_hC114 := hC114.size
              replace hrw := hC114.rd hrw (by omega) (fun x e => by have := hDa114 x e; omega)
              replace hb_g8 := hC114.bk hb_g8 (by omega) (fun e2 => by have := hDa114 _ e2; omega)
              replace hrx := hC114.rd hrx (by omega) (fun x e => by have := hDa114 x e; omega)
              replace hrz := hC114.rd hrz (by omega) (fun x e => by have := hDa114 x e; omega)
              replace hE := hC114.e0 hE (by omega) (fun x e => by have := hDa114 x e; omega)
              replace hrp := hC114.rd hrp (by omega) (fun x e => by have := hDa114 x e; omega)
              rw [hnx] at hb114
              replace hb114 : Dec _ w.heap.size gn19 D 100 false ([] : List UInt8) := hb114
              have hzb114 := hb114.lt.1
              have hcp114 := hb114.cap
              refine wl_gval (ov_not (b := true) rfl) rfl rfl rfl rfl rfl ?_
              refine wl_val (ov_pick_f rfl rfl) rfl rfl rfl ?_
              refine wl_val (ov_move rfl) rfl rfl rfl ?_
              refine wl_gval (ov_move rfl) rfl rfl rfl rfl rfl ?_
              refine wl_gstep (or_call0 cl42 rfl rfl (dheld_ok _ w.heap.size gn19 D 100 false ([] : List UInt8) hb114 (by first | omega | (simp; done)))) rfl rfl rfl rfl rfl ?_
              rintro v w209 ⟨rfl, he119⟩
              replace hrw := hrw.ext he119
              replace hb_g8 := hb_g8.ext he119
              replace hrx := hrx.ext he119
              replace hrz := hrz.ext he119
              replace hE := hE.tr he119
              replace hrp := hrp.ext he119
              replace hb114 := hb114.ext he119
              have hz_he119 := he119.size
              refine wl_gval (ov_neq rfl rfl) rfl rfl rfl rfl rfl ?_
              refine wl_spell (d := 120) rfl (bf (by decide)) ?_
              refine wl_val (ov_pick_f rfl rfl) rfl rfl rfl ?_
              refine q_nil ?_
              refine k_then ?_
              refine wc_cond_f rfl ?_
              refine q_skip ?_
              refine k_block ?_
              refine k_then ?_
              refine wc_regionL ?_
              refine wl_val (ov_add rfl rfl (wi64 (by omega) (by omega))) rfl rfl rfl ?_
              refine wl_val (ov_move rfl) rfl rfl rfl ?_
              refine q_nil ?_
              refine k_loop ((k + 1, D)) (by show xs.length - (k + 1) < xs.length - k; omega) (⟨rfl, rfl, rfl, rfl, rfl, trivial⟩) (⟨by show k + 1 ≤ _; omega, hb114, hrx, hrz, hE⟩)
    · refine q_exit ?_
      refine k_thenX ?_
      refine k_thenX ?_
      refine k_blockE ?_
      refine k_then ?_
      refine wc_seq ?_
      refine wc_regionL ?_
      refine wl_step (or_call0 cl30 rfl rfl (known06_any _)) rfl rfl rfl ?_
      rintro v w202 ⟨rfl, he123⟩
      replace hdec := hdec.ext he123
      replace hrx := hrx.ext he123
      replace hrz := hrz.ext he123
      replace hE := hE.tr he123
      have hz_he123 := he123.size
      refine wl_val (ov_assign rfl) rfl rfl rfl ?_
      refine q_nil ?_
      refine k_then ?_
      refine q_ret ?_
      refine e_ret rfl rfl ?_
      exact ⟨rfl, hE⟩

end Go.Proofs.Ytopfjpkjpmdhaaa
