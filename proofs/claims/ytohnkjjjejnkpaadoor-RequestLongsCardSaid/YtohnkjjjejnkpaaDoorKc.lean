/-
  Light commands, and copies. Condition: the sizes that every memory keeps.
-/
import Derived.Test.YtohnkjjjejnkpaaDoorKa
namespace Go.Proofs.YtohnkjjjejnkpaaDoor
open Go.RowKit
set_option linter.unusedVariables false
set_option maxRecDepth 4000


def slen (xs : List (List UInt8)) : Nat := (xs.map List.length).sum
theorem slen_take {xs : List (List UInt8)} {k : Nat} {s : List UInt8} (h : xs[k]? = some s) : slen (xs.take (k + 1)) = slen (xs.take k) + s.length := by
  unfold slen; rw [List.take_add_one, h]; simp
theorem slen_le {xs : List (List UInt8)} {R : Nat} (h : ∀ s ∈ xs, s.length ≤ R) : ∀ k, slen (xs.take k) ≤ k * R
  | 0 => by simp [slen]
  | k + 1 => by
    have ih := slen_le h k
    cases hk : xs[k]? with
    | none => rw [List.take_add_one, hk, Option.toList_none, List.append_nil, Nat.succ_mul]; omega
    | some s => have := h s (List.mem_of_getElem? hk); rw [slen_take hk, Nat.succ_mul]; omega
def lN (c : Cmd) : Nat := c.key.length + c.value.length + c.tag.length + c.pre.length + c.child.length
def lightC (c : Cmd) : Bool := decide (c.tags.length ≤ 40 ∧ c.keys.length ≤ 40 ∧ lN c ≤ 600 ∧ lN c + slen c.tags + slen c.keys ≤ 6000)
/-- The sizes that every memory keeps. -/
structure CmdOK (c : Cmd) : Prop where
  key : c.key.length ≤ 140737488351232
  value : c.value.length ≤ 140737488351232
  tag : c.tag.length ≤ 140737488351232
  pre : c.pre.length ≤ 140737488351232
  child : c.child.length ≤ 140737488351232
  tags : ∀ s ∈ c.tags, s.length ≤ 140737488351232
  keys : ∀ s ∈ c.keys, s.length ≤ 140737488351232
  life : c.life < 18446744073709551616
  ver : c.ver < 18446744073709551616
theorem wl_le (xs : List (List UInt8)) : (wl xs).length ≤ 10 + 10 * xs.length + slen xs := by
  have h : (xs.flatMap pb).length ≤ 10 * xs.length + slen xs := by
    induction xs with
    | nil => simp [slen]
    | cons a r ih =>
      have he := enc_len a.length
      have hs : slen (a :: r) = a.length + slen r := by simp [slen]
      rw [List.flatMap_cons, List.length_append, len_pb, hs, List.length_cons]; omega
  have he := enc_len xs.length
  rw [wl_len]; omega
theorem light_sz {c : Cmd} (h : lightC c = true) : csz c ≤ 17592186044416 ∧ c.tags.length ≤ 40 ∧ c.keys.length ≤ 40 ∧ c.value.length ≤ 600 := by
  obtain ⟨h1, h2, h3, h4⟩ := of_decide_eq_true h
  have h5 := wl_le c.tags
  have h6 := wl_le c.keys
  unfold csz
  unfold lN at h3 h4
  omega
theorem strc_one {xs : List (List UInt8)} : ∀ u ∈ xs.flatMap strc, u.oneCell' = true := by
  intro u hu
  rw [flat_strc, List.mem_map] at hu
  obtain ⟨s, _, rfl⟩ := hu; rfl

theorem light_any (w : World) (cm : Cmd) (lo hi : Nat) (K : Option Addr) (ck : Nat) (V : Option Addr) (cv : Nat) (T : Option Addr) (ct : Nat) (hK : RdS w lo hi K ck cm.keys) (hV : RdB w lo hi V cv cm.value) (hT : RdS w lo hi T ct cm.tags) (hok : CmdOK cm) :
    Fn Tryd.prog 13 #[(.agg #[(.int .i64 cm.op), (.string (strB cm.key)), (.slice K cm.keys.length ck), (.slice V cm.value.length cv), (.slice T cm.tags.length ct), (.int .u64 (↑cm.life : Int)), (.int .u64 (↑cm.ver : Int)), (.string (strB cm.tag)), (.string (strB cm.pre)), (.string (strB cm.child))])] w (fun v w' => v = .bool (lightC cm) ∧ Ext w w')  := by
  replace hK := hK.top
  replace hV := hV.top
  replace hT := hT.top
  have hE := ext_refl w
  have k1 := hok.key
  have k2 := hok.value
  have k3 := hok.tag
  have k4 := hok.pre
  have k5 := hok.child
  refine fn_enter (args := [(.agg #[(.int .i64 cm.op), (.string (strB cm.key)), (.slice K cm.keys.length ck), (.slice V cm.value.length cv), (.slice T cm.tags.length ct), (.int .u64 (↑cm.life : Int)), (.int .u64 (↑cm.ver : Int)), (.string (strB cm.tag)), (.string (strB cm.pre)), (.string (strB cm.child))])]) Tryd.func13 rfl rfl rfl ?_
  show WC _ _ _ _ [(0, (.agg #[(.int .i64 cm.op), (.string (strB cm.key)), (.slice K cm.keys.length ck), (.slice V cm.value.length cv), (.slice T cm.tags.length ct), (.int .u64 (↑cm.life : Int)), (.int .u64 (↑cm.ver : Int)), (.string (strB cm.tag)), (.string (strB cm.pre)), (.string (strB cm.child))]))] _
  refine wc_seq (wc_regionL ?_)
  refine wl_step (or_box (cs := [(.int .i64 cm.op), (.string (strB cm.key)), (.slice K cm.keys.length ck), (.slice V cm.value.length cv), (.slice T cm.tags.length ct), (.int .u64 (↑cm.life : Int)), (.int .u64 (↑cm.ver : Int)), (.string (strB cm.tag)), (.string (strB cm.pre)), (.string (strB cm.child))]) rfl rfl) rfl rfl rfl ?_
  rintro v w1 ⟨g1, rfl, hb_g1, he1, hl1, hu1⟩
  replace hK := hK.ext he1
  replace hV := hV.ext he1
  replace hT := hT.ext he1
  replace hE := hE.tr he1
  have hz_he1 := he1.size
  refine va rfl rfl ?_
  refine q_nil (k_then (wc_seq (wc_regionL ?_)))
  refine wl_val (ov_field0 (off := 1) fo36_1 rfl) rfl rfl rfl ?_
  refine wl_val (ov_loadAt oc9 rfl hb_g1 rfl) rfl rfl rfl ?_
  refine wl_val (ov_slen Tryd.underlying9 rfl) rfl rfl rfl ?_
  refine wl_val (ov_field0 (off := 3) fo36_3 rfl) rfl rfl rfl ?_
  refine wl_val (ov_loadAt oc32 rfl hb_g1 rfl) rfl rfl rfl ?_
  refine wl_val (ov_len Tryd.underlying32 rfl) rfl rfl rfl ?_
  refine wl_val (ov_add rfl rfl (wi64 (by omega) (by omega))) rfl rfl rfl ?_
  refine wl_val (ov_field0 (off := 7) fo36_7 rfl) rfl rfl rfl ?_
  refine wl_val (ov_loadAt oc9 rfl hb_g1 rfl) rfl rfl rfl ?_
  refine wl_val (ov_slen Tryd.underlying9 rfl) rfl rfl rfl ?_
  refine wl_val (ov_add rfl rfl (wi64 (by omega) (by omega))) rfl rfl rfl ?_
  refine wl_val (ov_field0 (off := 8) fo36_8 rfl) rfl rfl rfl ?_
  refine wl_val (ov_loadAt oc9 rfl hb_g1 rfl) rfl rfl rfl ?_
  refine wl_val (ov_slen Tryd.underlying9 rfl) rfl rfl rfl ?_
  refine wl_val (ov_add rfl rfl (wi64 (by omega) (by omega))) rfl rfl rfl ?_
  refine wl_val (ov_field0 (off := 9) fo36_9 rfl) rfl rfl rfl ?_
  refine wl_val (ov_loadAt oc9 rfl hb_g1 rfl) rfl rfl rfl ?_
  refine wl_val (ov_slen Tryd.underlying9 rfl) rfl rfl rfl ?_
  refine wl_val (ov_add rfl rfl (wi64 (by omega) (by omega))) rfl rfl rfl ?_
  refine va rfl rfl ?_
  refine q_nil (k_then (wc_seq (wc_seq (wc_regionL ?_))))
  refine wl_val (ov_field0 (off := 4) fo36_4 rfl) rfl rfl rfl ?_
  refine wl_val (ov_loadAt oc27 rfl hb_g1 rfl) rfl rfl rfl ?_
  refine wl_val (ov_len Tryd.underlying27 rfl) rfl rfl rfl ?_
  refine wl_val (ov_gtr rfl rfl) rfl rfl rfl ?_
  refine wl_case_d (d := 30) rfl (fun h30 => ?_) (fun h30 => ?_)
  · refine vm rfl rfl ?_
    iterate 4 refine wl_gskip rfl rfl rfl rfl rfl rfl ?_
    refine wl_val (ov_pick_t rfl rfl) rfl rfl rfl ?_
    refine vm rfl rfl ?_
    iterate 2 refine wl_gskip rfl rfl rfl rfl rfl rfl ?_
    refine wl_val (ov_pick_t rfl rfl) rfl rfl rfl ?_
    refine q_nil (k_then ?_)
    refine wc_cond_t rfl ?_
    refine wc_seq (wc_regionL ?_)
    refine va rfl rfl ?_
    refine q_nil (k_then (q_ret (k_thenR ?_)))
    refine e_ret rfl rfl ?_
    first
      | exact ⟨by rw [hl], hE⟩
      | exact ⟨by rw [show lightC cm = false from decide_eq_false (by unfold lN; omega)], hE⟩
      | (refine ⟨?_, hE⟩; rw [hix]; unfold lightC; congr 1; rw [decide_eq_decide]; omega)
  · refine vm rfl rfl ?_
    refine wl_gval (ov_field0 (off := 2) fo36_2 rfl) rfl rfl rfl rfl rfl ?_
    refine wl_gval (ov_loadAt oc27 rfl hb_g1 rfl) rfl rfl rfl rfl rfl ?_
    refine wl_gval (ov_len Tryd.underlying27 rfl) rfl rfl rfl rfl rfl ?_
    refine wl_gval (ov_gtr rfl rfl) rfl rfl rfl rfl rfl ?_
    refine wl_case_d (d := 35) rfl (fun h35 => ?_) (fun h35 => ?_)
    · refine wl_val (ov_pick_f rfl rfl) rfl rfl rfl ?_
      refine vm rfl rfl ?_
      iterate 2 refine wl_gskip rfl rfl rfl rfl rfl rfl ?_
      refine wl_val (ov_pick_t rfl rfl) rfl rfl rfl ?_
      refine q_nil (k_then ?_)
      refine wc_cond_t rfl ?_
      refine wc_seq (wc_regionL ?_)
      refine va rfl rfl ?_
      refine q_nil (k_then (q_ret (k_thenR ?_)))
      refine e_ret rfl rfl ?_
      first
        | exact ⟨by rw [hl], hE⟩
        | exact ⟨by rw [show lightC cm = false from decide_eq_false (by unfold lN; omega)], hE⟩
        | (refine ⟨?_, hE⟩; rw [hix]; unfold lightC; congr 1; rw [decide_eq_decide]; omega)
    · refine wl_val (ov_pick_f rfl rfl) rfl rfl rfl ?_
      refine vm rfl rfl ?_
      refine wl_gval (ov_move rfl) rfl rfl rfl rfl rfl ?_
      refine wl_gval (ov_gtr rfl rfl) rfl rfl rfl rfl rfl ?_
      refine wl_val (ov_pick_f rfl rfl) rfl rfl rfl ?_
      refine q_nil (k_then ?_)
      refine wc_cond_d rfl (fun hc1 => ?_) (fun hc1 => ?_)
      · have hl : lightC cm = false := decide_eq_false (by unfold lN; omega)
        refine wc_seq (wc_regionL ?_)
        refine va rfl rfl ?_
        refine q_nil (k_then (q_ret (k_thenR ?_)))
        refine e_ret rfl rfl ?_
        first
          | exact ⟨by rw [hl], hE⟩
          | exact ⟨by rw [show lightC cm = false from decide_eq_false (by unfold lN; omega)], hE⟩
          | (refine ⟨?_, hE⟩; rw [hix]; unfold lightC; congr 1; rw [decide_eq_decide]; omega)
      · have hl6 : lN cm ≤ 600 := by unfold lN; omega
        refine q_skip (k_then (wc_seq (wc_seq (wc_regionL ?_))))
        refine wl_val (ov_field0 (off := 4) fo36_4 rfl) rfl rfl rfl ?_
        refine wl_val (ov_loadAt oc27 rfl hb_g1 rfl) rfl rfl rfl ?_
        refine wl_val (ov_len Tryd.underlying27 rfl) rfl rfl rfl ?_
        refine vm rfl rfl ?_
        refine q_nil (k_then (wc_block ?_))
        refine wc_spell (d := 3) rfl (v' := .int .i64 ((lN cm + slen (cm.tags.take 0) : Nat) : Int)) (by first | (congr 1; done) | (congr 1; unfold lN slen; simp <;> omega)) ?_
        refine wc_loop (σ := Nat) (fun i => cm.tags.length - i) (fun i => [(1, .pointer (some ⟨g1, 0, none⟩)), (3, .int .i64 ((lN cm + slen (cm.tags.take i) : Nat) : Int)), (42, .slice T cm.tags.length ct), (43, .int .i64 (cm.tags.length : Int)), (44, .int .i64 (i : Int))]) (fun i w' => i ≤ cm.tags.length ∧ Blk w' g1 36 (cmdc cm K ck V cv T ct) ∧ RdS w' lo w.heap.size K ck cm.keys ∧ RdB w' lo w.heap.size V cv cm.value ∧ RdS w' lo w.heap.size T ct cm.tags ∧ Ext w w') (0) (⟨Nat.zero_le _, hb_g1, hK, hV, hT, hE⟩) (⟨rfl, rfl, rfl, rfl, rfl, trivial⟩) ?_
        rintro i wq ⟨hi0, hb_g1, hK, hV, hT, hE⟩
        show WC _ _ _ _ [(1, (.pointer (some ⟨g1, 0, none⟩))), (3, (.int .i64 ((lN cm + slen (cm.tags.take i) : Nat) : Int))), (42, (.slice T cm.tags.length ct)), (43, (.int .i64 (↑cm.tags.length : Int))), (44, (.int .i64 (↑i : Int)))] _
        replace hb_g1 : Blk wq g1 36 [(.int .i64 cm.op), (.string (strB cm.key)), (.slice K cm.keys.length ck), (.slice V cm.value.length cv), (.slice T cm.tags.length ct), (.int .u64 (↑cm.life : Int)), (.int .u64 (↑cm.ver : Int)), (.string (strB cm.tag)), (.string (strB cm.pre)), (.string (strB cm.child))] := hb_g1
        have hsl := slen_le hok.tags i
        have hsl2 := slen_le hok.tags cm.tags.length
        rw [List.take_length] at hsl2
        refine wc_seq (wc_regionL ?_)
        refine wl_val (ov_lss rfl rfl) rfl rfl rfl ?_
        refine q_nil (k_then (wc_seq ?_))
        refine wc_cond_d rfl (fun hc2 => ?_) (fun hc2 => ?_)
        · obtain ⟨s, hk⟩ : ∃ s, cm.tags[i]? = some s := ⟨_, List.getElem?_eq_getElem (by omega)⟩
          have hsm := hok.tags s (List.mem_of_getElem? hk)
          refine q_skip (k_then (wc_seq (wc_block (wc_seq (wc_regionL ?_)))))
          refine wl_step (or_rindex (m := (i)) sl27 rfl rfl hT (fun _ _ => rfl) hk) rfl rfl rfl ?_
          rintro v _ ⟨rfl, p46, rfl, hp46, hpl46, hph46⟩
          refine wl_val (ov_load oc9 rfl (cell_zero hp46 rfl)) rfl rfl rfl ?_
          refine va rfl rfl ?_
          refine q_nil (k_then (wc_regionL ?_))
          iterate 2 refine vm rfl rfl ?_
          refine wl_val (ov_slen Tryd.underlying9 rfl) rfl rfl rfl ?_
          refine wl_val (ov_add rfl rfl (wi64 (by omega) (by omega))) rfl rfl rfl ?_
          refine wl_spell (d := 51) rfl (v' := .int .i64 ((lN cm + slen (cm.tags.take (i + 1)) : Nat) : Int)) (by rw [slen_take hk]; congr 1 <;> omega) ?_
          refine va rfl rfl ?_
          refine q_nil (k_block (k_then (wc_regionL ?_)))
          refine wl_val (ov_add rfl rfl (wi64 (by omega) (by omega))) rfl rfl rfl ?_
          refine vm rfl rfl ?_
          refine q_nil ?_
          refine k_loop (i + 1) (by show cm.tags.length - (i + 1) < cm.tags.length - i; omega) (⟨rfl, rfl, rfl, rfl, rfl, trivial⟩) (⟨by omega, hb_g1, hK, hV, hT, hE⟩)
        · have hix : cm.tags.take i = cm.tags := List.take_of_length_le (by omega)
          refine wc_spell (d := 3) rfl (v' := .int .i64 ((lN cm + slen cm.tags : Nat) : Int)) (by rw [hix]) ?_
          refine q_exit (k_thenX (k_thenX (k_blockE (k_then (wc_seq (wc_seq (wc_regionL ?_)))))))
          refine wl_val (ov_field0 (off := 2) fo36_2 rfl) rfl rfl rfl ?_
          refine wl_val (ov_loadAt oc27 rfl hb_g1 rfl) rfl rfl rfl ?_
          refine wl_val (ov_len Tryd.underlying27 rfl) rfl rfl rfl ?_
          refine vm rfl rfl ?_
          refine q_nil (k_then (wc_block ?_))
          refine wc_spell (d := 3) rfl (v' := .int .i64 ((lN cm + slen cm.tags + slen (cm.keys.take 0) : Nat) : Int)) (by first | (congr 1; done) | (congr 1; simp [slen] <;> omega)) ?_
          refine wc_loop (σ := Nat) (fun i => cm.keys.length - i) (fun i => [(1, .pointer (some ⟨g1, 0, none⟩)), (3, .int .i64 ((lN cm + slen cm.tags + slen (cm.keys.take i) : Nat) : Int)), (54, .slice K cm.keys.length ck), (55, .int .i64 (cm.keys.length : Int)), (56, .int .i64 (i : Int))]) (fun i w' => i ≤ cm.keys.length ∧ Blk w' g1 36 (cmdc cm K ck V cv T ct) ∧ RdS w' lo w.heap.size K ck cm.keys ∧ RdB w' lo w.heap.size V cv cm.value ∧ RdS w' lo w.heap.size T ct cm.tags ∧ Ext w w') (0) (⟨Nat.zero_le _, hb_g1, hK, hV, hT, hE⟩) (⟨rfl, rfl, rfl, rfl, rfl, trivial⟩) ?_
          rintro i wq ⟨hi0, hb_g1, hK, hV, hT, hE⟩
          show WC _ _ _ _ [(1, (.pointer (some ⟨g1, 0, none⟩))), (3, (.int .i64 ((lN cm + slen cm.tags + slen (cm.keys.take i) : Nat) : Int))), (54, (.slice K cm.keys.length ck)), (55, (.int .i64 (↑cm.keys.length : Int))), (56, (.int .i64 (↑i : Int)))] _
          replace hb_g1 : Blk wq g1 36 [(.int .i64 cm.op), (.string (strB cm.key)), (.slice K cm.keys.length ck), (.slice V cm.value.length cv), (.slice T cm.tags.length ct), (.int .u64 (↑cm.life : Int)), (.int .u64 (↑cm.ver : Int)), (.string (strB cm.tag)), (.string (strB cm.pre)), (.string (strB cm.child))] := hb_g1
          have hsl := slen_le hok.keys i
          have hsl2 := slen_le hok.tags cm.tags.length
          rw [List.take_length] at hsl2
          refine wc_seq (wc_regionL ?_)
          refine wl_val (ov_lss rfl rfl) rfl rfl rfl ?_
          refine q_nil (k_then (wc_seq ?_))
          refine wc_cond_d rfl (fun hc3 => ?_) (fun hc3 => ?_)
          · obtain ⟨s, hk⟩ : ∃ s, cm.keys[i]? = some s := ⟨_, List.getElem?_eq_getElem (by omega)⟩
            have hsm := hok.keys s (List.mem_of_getElem? hk)
            refine q_skip (k_then (wc_seq (wc_block (wc_seq (wc_regionL ?_)))))
            refine wl_step (or_rindex (m := (i)) sl27 rfl rfl hK (fun _ _ => rfl) hk) rfl rfl rfl ?_
            rintro v _ ⟨rfl, p58, rfl, hp58, hpl58, hph58⟩
            refine wl_val (ov_load oc9 rfl (cell_zero hp58 rfl)) rfl rfl rfl ?_
            refine va rfl rfl ?_
            refine q_nil (k_then (wc_regionL ?_))
            iterate 2 refine vm rfl rfl ?_
            refine wl_val (ov_slen Tryd.underlying9 rfl) rfl rfl rfl ?_
            refine wl_val (ov_add rfl rfl (wi64 (by omega) (by omega))) rfl rfl rfl ?_
            refine wl_spell (d := 63) rfl (v' := .int .i64 ((lN cm + slen cm.tags + slen (cm.keys.take (i + 1)) : Nat) : Int)) (by rw [slen_take hk]; congr 1 <;> omega) ?_
            refine va rfl rfl ?_
            refine q_nil (k_block (k_then (wc_regionL ?_)))
            refine wl_val (ov_add rfl rfl (wi64 (by omega) (by omega))) rfl rfl rfl ?_
            refine vm rfl rfl ?_
            refine q_nil ?_
            refine k_loop (i + 1) (by show cm.keys.length - (i + 1) < cm.keys.length - i; omega) (⟨rfl, rfl, rfl, rfl, rfl, trivial⟩) (⟨by omega, hb_g1, hK, hV, hT, hE⟩)
          · have hix : cm.keys.take i = cm.keys := List.take_of_length_le (by omega)
            refine q_exit (k_thenX (k_thenX (k_blockE (k_then (wc_seq (wc_regionL ?_))))))
            refine vm rfl rfl ?_
            refine wl_val (ov_leq rfl rfl) rfl rfl rfl ?_
            refine va rfl rfl ?_
            refine q_nil (k_then (q_ret ?_))
            refine e_ret rfl rfl ?_
            first
              | exact ⟨by rw [hl], hE⟩
              | exact ⟨by rw [show lightC cm = false from decide_eq_false (by unfold lN; omega)], hE⟩
              | (refine ⟨?_, hE⟩; rw [hix]; unfold lightC; congr 1; rw [decide_eq_decide]; omega)

theorem copies_any (w : World) (cm : Cmd) (lo hi : Nat) (K : Option Addr) (ck : Nat) (V : Option Addr) (cv : Nat) (T : Option Addr) (ct : Nat) (hK : RdS w lo hi K ck cm.keys) (hV : RdB w lo hi V cv cm.value) (hT : RdS w lo hi T ct cm.tags) (ht : cm.tags.length ≤ 40) (hk : cm.keys.length ≤ 40) (hv : cm.value.length ≤ 600) :
    Fn Tryd.prog 16 #[(.agg #[(.int .i64 cm.op), (.string (strB cm.key)), (.slice K cm.keys.length ck), (.slice V cm.value.length cv), (.slice T cm.tags.length ct), (.int .u64 (↑cm.life : Int)), (.int .u64 (↑cm.ver : Int)), (.string (strB cm.tag)), (.string (strB cm.pre)), (.string (strB cm.child))])] w (fun u w' => ∃ K1 k1 V1 v1 T1 t1, u = .agg (cmdc cm K1 k1 V1 v1 T1 t1).toArray ∧ Own w' w.heap.size 9 1 K1 cm.keys.length k1 (cm.keys.flatMap strc) ∧ OwnB w' w.heap.size 5 V1 v1 cm.value ∧ Own w' w.heap.size 9 1 T1 cm.tags.length t1 (cm.tags.flatMap strc) ∧ (∀ g, blk K1 = some g → blk T1 ≠ some g) ∧ Ext w w')  := by
  replace hK := hK.top
  replace hV := hV.top
  replace hT := hT.top
  have hE := ext_refl w
  refine fn_enter (args := [(.agg #[(.int .i64 cm.op), (.string (strB cm.key)), (.slice K cm.keys.length ck), (.slice V cm.value.length cv), (.slice T cm.tags.length ct), (.int .u64 (↑cm.life : Int)), (.int .u64 (↑cm.ver : Int)), (.string (strB cm.tag)), (.string (strB cm.pre)), (.string (strB cm.child))])]) Tryd.func16 rfl rfl rfl ?_
  show WC _ _ _ _ [(0, (.agg #[(.int .i64 cm.op), (.string (strB cm.key)), (.slice K cm.keys.length ck), (.slice V cm.value.length cv), (.slice T cm.tags.length ct), (.int .u64 (↑cm.life : Int)), (.int .u64 (↑cm.ver : Int)), (.string (strB cm.tag)), (.string (strB cm.pre)), (.string (strB cm.child))]))] _
  refine wc_seq (wc_regionL ?_)
  refine wl_step (or_box (cs := [(.int .i64 cm.op), (.string (strB cm.key)), (.slice K cm.keys.length ck), (.slice V cm.value.length cv), (.slice T cm.tags.length ct), (.int .u64 (↑cm.life : Int)), (.int .u64 (↑cm.ver : Int)), (.string (strB cm.tag)), (.string (strB cm.pre)), (.string (strB cm.child))]) rfl rfl) rfl rfl rfl ?_
  rintro v w1 ⟨g1, rfl, hb_g1, he1, hl1, hu1⟩
  replace hK := hK.ext he1
  replace hV := hV.ext he1
  replace hT := hT.ext he1
  replace hE := hE.tr he1
  have hz_he1 := he1.size
  refine wl_step (or_alloc (cs := [(.int .i64 0), (.string (strB [])), (.slice none 0 0), (.slice none 0 0), (.slice none 0 0), (.int .u64 0), (.int .u64 0), (.string (strB [])), (.string (strB [])), (.string (strB []))]) ze36 rfl) rfl rfl rfl ?_
  rintro v w2 ⟨g2, rfl, hb_g2, he2, hl2, hu2⟩
  replace hK := hK.ext he2
  replace hV := hV.ext he2
  replace hT := hT.ext he2
  replace hE := hE.tr he2
  replace hb_g1 := hb_g1.ext he2
  have hz_he2 := he2.size
  refine q_nil (k_then (wc_seq (wc_regionL ?_)))
  refine wl_val (ov_field0 (off := 3) fo36_3 rfl) rfl rfl rfl ?_
  refine wl_val (ov_loadAt oc32 rfl hb_g1 rfl) rfl rfl rfl ?_
  refine wl_step (or_bappend0 bt32 rfl rfl hV (by omega)) rfl rfl rfl ?_
  rintro v w3 ⟨A5, c5, rfl, ho5, he5⟩
  replace hK := hK.ext he5
  replace hV := hV.ext he5
  replace hT := hT.ext he5
  replace hE := hE.tr he5
  replace hb_g1 := hb_g1.ext he5
  replace hb_g2 := hb_g2.ext he5
  have hz_he5 := he5.size
  have hq_ho5 := fun g e => Own.lt ho5 (g := g) e
  refine wl_val (ov_field0 (off := 3) fo36_3 rfl) rfl rfl rfl ?_
  refine wl_step0 (or_storeAt (cs' := [(.int .i64 cm.op), (.string (strB cm.key)), (.slice K cm.keys.length ck), (.slice A5 cm.value.length c5), (.slice T cm.tags.length ct), (.int .u64 (↑cm.life : Int)), (.int .u64 (↑cm.ver : Int)), (.string (strB cm.tag)), (.string (strB cm.pre)), (.string (strB cm.child))]) sz32 rfl rfl rfl hb_g1 rfl rfl) rfl rfl ?_
  rintro _ w4 ⟨hN4, hg4⟩
  have hz_hg4 := hg4.size
  replace hK := hK.gr hg4 (fun _ e => by cases e; omega)
  replace hV := hV.gr hg4 (fun _ e => by cases e; omega)
  replace hT := hT.gr hg4 (fun _ e => by cases e; omega)
  replace hE := hE.gr hg4 (fun _ e => by cases e; omega)
  replace hb_g2 := hb_g2.gr hg4 (by intro e; cases e; omega)
  replace ho5 := Own.gr ho5 hg4 (by first | exact .inl rfl | (right; intro e; first | (have := hq_ho5 _ e; omega) | (have := Own.lt ho5 e; omega) | exact own_blk_ne ho5 hb_g1 (by decide) e))
  replace hb_g1 := hN4
  refine q_nil (k_then (wc_seq (wc_regionL ?_)))
  refine wl_val (ov_field0 (off := 4) fo36_4 rfl) rfl rfl rfl ?_
  refine wl_val (ov_loadAt oc27 rfl hb_g1 rfl) rfl rfl rfl ?_
  refine wl_step (or_append sl27 rfl (Own.nil_ _ w.heap.size _ _) rfl hT strc_one (by omega) (by simp only [maxLen]; omega) (by omega)) rfl rfl rfl ?_
  rintro v w5 ⟨A9, c9, rfl, ho9, hg9, ha9⟩
  have he9 : Ext _ _ := hg9
  replace hK := hK.ext he9
  replace hV := hV.ext he9
  replace hT := hT.ext he9
  replace hE := hE.tr he9
  replace hb_g1 := hb_g1.ext he9
  replace hb_g2 := hb_g2.ext he9
  replace ho5 := Own.ext ho5 he9
  have hz_he9 := he9.size
  rw [Nat.zero_add, List.nil_append] at ho9
  have hq_ho9 := fun g e => Own.lt ho9 (g := g) e
  refine wl_spell (d := 9) rfl (v' := .slice A9 cm.tags.length c9) (by rw [Nat.zero_add]) ?_
  refine wl_val (ov_field0 (off := 4) fo36_4 rfl) rfl rfl rfl ?_
  refine wl_step0 (or_storeAt (cs' := [(.int .i64 cm.op), (.string (strB cm.key)), (.slice K cm.keys.length ck), (.slice A5 cm.value.length c5), (.slice A9 cm.tags.length c9), (.int .u64 (↑cm.life : Int)), (.int .u64 (↑cm.ver : Int)), (.string (strB cm.tag)), (.string (strB cm.pre)), (.string (strB cm.child))]) sz27 rfl rfl rfl hb_g1 rfl rfl) rfl rfl ?_
  rintro _ w6 ⟨hN6, hg6⟩
  have hz_hg6 := hg6.size
  replace hK := hK.gr hg6 (fun _ e => by cases e; omega)
  replace hV := hV.gr hg6 (fun _ e => by cases e; omega)
  replace hT := hT.gr hg6 (fun _ e => by cases e; omega)
  replace hE := hE.gr hg6 (fun _ e => by cases e; omega)
  replace hb_g2 := hb_g2.gr hg6 (by intro e; cases e; omega)
  replace ho5 := Own.gr ho5 hg6 (by first | exact .inl rfl | (right; intro e; first | (have := hq_ho5 _ e; omega) | (have := Own.lt ho5 e; omega) | exact own_blk_ne ho5 hb_g1 (by decide) e))
  replace ho9 := Own.gr ho9 hg6 (by first | exact .inl rfl | (right; intro e; first | (have := hq_ho9 _ e; omega) | (have := Own.lt ho9 e; omega) | exact own_blk_ne ho9 hb_g1 (by decide) e))
  replace hb_g1 := hN6
  refine q_nil (k_then (wc_seq (wc_regionL ?_)))
  refine wl_val (ov_field0 (off := 2) fo36_2 rfl) rfl rfl rfl ?_
  refine wl_val (ov_loadAt oc27 rfl hb_g1 rfl) rfl rfl rfl ?_
  have hq9b := fun g e => Own.lt ho9 (g := g) e
  refine wl_step (or_append sl27 rfl (Own.nil_ _ w.heap.size _ _) rfl hK strc_one (by omega) (by simp only [maxLen]; omega) (by omega)) rfl rfl rfl ?_
  rintro v w7 ⟨A13, c13, rfl, ho13, hg13, ha13⟩
  have he13 : Ext _ _ := hg13
  replace hK := hK.ext he13
  replace hV := hV.ext he13
  replace hT := hT.ext he13
  replace hE := hE.tr he13
  replace hb_g1 := hb_g1.ext he13
  replace hb_g2 := hb_g2.ext he13
  replace ho5 := Own.ext ho5 he13
  replace ho9 := Own.ext ho9 he13
  have hz_he13 := he13.size
  rw [Nat.zero_add, List.nil_append] at ho13
  have hq_ho13 := fun g e => Own.lt ho13 (g := g) e
  refine wl_spell (d := 13) rfl (v' := .slice A13 cm.keys.length c13) (by rw [Nat.zero_add]) ?_
  have hsep : ∀ g, blk A13 = some g → blk A9 ≠ some g := fun g e1 e2 => by
    have h9 := hq9b g e2
    rcases ha13 with h | h
    · rw [h] at e1; cases e1
    · rw [h] at e1; cases e1; omega
  refine wl_val (ov_field0 (off := 2) fo36_2 rfl) rfl rfl rfl ?_
  refine wl_step0 (or_storeAt (cs' := [(.int .i64 cm.op), (.string (strB cm.key)), (.slice A13 cm.keys.length c13), (.slice A5 cm.value.length c5), (.slice A9 cm.tags.length c9), (.int .u64 (↑cm.life : Int)), (.int .u64 (↑cm.ver : Int)), (.string (strB cm.tag)), (.string (strB cm.pre)), (.string (strB cm.child))]) sz27 rfl rfl rfl hb_g1 rfl rfl) rfl rfl ?_
  rintro _ w8 ⟨hN8, hg8⟩
  have hz_hg8 := hg8.size
  replace hK := hK.gr hg8 (fun _ e => by cases e; omega)
  replace hV := hV.gr hg8 (fun _ e => by cases e; omega)
  replace hT := hT.gr hg8 (fun _ e => by cases e; omega)
  replace hE := hE.gr hg8 (fun _ e => by cases e; omega)
  replace hb_g2 := hb_g2.gr hg8 (by intro e; cases e; omega)
  replace ho5 := Own.gr ho5 hg8 (by first | exact .inl rfl | (right; intro e; first | (have := hq_ho5 _ e; omega) | (have := Own.lt ho5 e; omega) | exact own_blk_ne ho5 hb_g1 (by decide) e))
  replace ho9 := Own.gr ho9 hg8 (by first | exact .inl rfl | (right; intro e; first | (have := hq_ho9 _ e; omega) | (have := Own.lt ho9 e; omega) | exact own_blk_ne ho9 hb_g1 (by decide) e))
  replace ho13 := Own.gr ho13 hg8 (by first | exact .inl rfl | (right; intro e; first | (have := hq_ho13 _ e; omega) | (have := Own.lt ho13 e; omega) | exact own_blk_ne ho13 hb_g1 (by decide) e))
  replace hb_g1 := hN8
  refine q_nil (k_then (wc_seq (wc_regionL ?_)))
  refine wl_val (ov_loadBlk (cs := [(.int .i64 cm.op), (.string (strB cm.key)), (.slice A13 cm.keys.length c13), (.slice A5 cm.value.length c5), (.slice A9 cm.tags.length c9), (.int .u64 (↑cm.life : Int)), (.int .u64 (↑cm.ver : Int)), (.string (strB cm.tag)), (.string (strB cm.pre)), (.string (strB cm.child))]) ag36_10 rfl hb_g1) rfl rfl rfl ?_
  refine wl_step0 (or_storeBlk (vs := [(.int .i64 cm.op), (.string (strB cm.key)), (.slice A13 cm.keys.length c13), (.slice A5 cm.value.length c5), (.slice A9 cm.tags.length c9), (.int .u64 (↑cm.life : Int)), (.int .u64 (↑cm.ver : Int)), (.string (strB cm.tag)), (.string (strB cm.pre)), (.string (strB cm.child))]) sz36 rfl rfl (by simp [Value.oneCell']) hb_g2 rfl) rfl rfl ?_
  rintro _ w9 ⟨hN9, hg9⟩
  have hz_hg9 := hg9.size
  replace hK := hK.gr hg9 (fun _ e => by cases e; omega)
  replace hV := hV.gr hg9 (fun _ e => by cases e; omega)
  replace hT := hT.gr hg9 (fun _ e => by cases e; omega)
  replace hE := hE.gr hg9 (fun _ e => by cases e; omega)
  replace hb_g1 := hb_g1.gr hg9 (by intro e; cases e; omega)
  replace ho5 := Own.gr ho5 hg9 (by first | exact .inl rfl | (right; intro e; first | (have := hq_ho5 _ e; omega) | (have := Own.lt ho5 e; omega) | exact own_blk_ne ho5 hb_g2 (by decide) e))
  replace ho9 := Own.gr ho9 hg9 (by first | exact .inl rfl | (right; intro e; first | (have := hq_ho9 _ e; omega) | (have := Own.lt ho9 e; omega) | exact own_blk_ne ho9 hb_g2 (by decide) e))
  replace ho13 := Own.gr ho13 hg9 (by first | exact .inl rfl | (right; intro e; first | (have := hq_ho13 _ e; omega) | (have := Own.lt ho13 e; omega) | exact own_blk_ne ho13 hb_g2 (by decide) e))
  replace hb_g2 := hN9
  refine q_nil (k_then (q_ret ?_))
  refine e_retL (rs := [.cell 2 36]) (vs := [.agg #[(.int .i64 cm.op), (.string (strB cm.key)), (.slice A13 cm.keys.length c13), (.slice A5 cm.value.length c5), (.slice A9 cm.tags.length c9), (.int .u64 (↑cm.life : Int)), (.int .u64 (↑cm.ver : Int)), (.string (strB cm.tag)), (.string (strB cm.pre)), (.string (strB cm.child))]]) rfl ⟨⟨_, _, [(.int .i64 cm.op), (.string (strB cm.key)), (.slice A13 cm.keys.length c13), (.slice A5 cm.value.length c5), (.slice A9 cm.tags.length c9), (.int .u64 (↑cm.life : Int)), (.int .u64 (↑cm.ver : Int)), (.string (strB cm.tag)), (.string (strB cm.pre)), (.string (strB cm.child))], rfl, ag36_10, hb_g2, rfl⟩, trivial⟩ ?_
  exact ⟨A13, c13, A5, c5, A9, c9, rfl, ho13, Own.mono ho5 (by omega), ho9, hsep, hE⟩

theorem wvalid_ref (w : World) (cm : Cmd) (lo hi : Nat) (K : Option Addr) (ck : Nat) (V : Option Addr) (cv : Nat) (T : Option Addr) (ct : Nat) (hK : RdS w lo hi K ck cm.keys) (hV : RdB w lo hi V cv cm.value) (hT : RdS w lo hi T ct cm.tags) (hlf : cm.life < 18446744073709551616) (hvr : cm.ver < 18446744073709551616) (hsz : csz cm ≤ 17592186044416) : Fn Tryd.prog 25 #[.agg (cmdc cm K ck V cv T ct).toArray] w (fun v w' => v = .bool (rvalid cm) ∧ Ext w w') := by
  have e : decide ((wrC cm).2 = 0) = rvalid cm := by
    rw [wrC_eq hlf hvr]
    cases hv : rvalid cm
    · rw [if_neg (by simp)]; rfl
    · rw [if_pos rfl]; rfl
  rw [← e]
  exact wvalid_any w cm lo hi K ck V cv T ct hK hV hT hlf hvr hsz

end Go.Proofs.YtohnkjjjejnkpaaDoor
