/-
  The reference: needs, parts alone, allowed parts.
-/
import Derived.Test.YtohnkjjjejnkpaaDoorQh
namespace Go.Proofs.YtohnkjjjejnkpaaDoor
open Go.RowKit
set_option linter.unusedVariables false
set_option maxRecDepth 4000
theorem cl29 : callable Tryd.prog 29 = true := by kernel_rfl
theorem cl39 : callable Tryd.prog 39 = true := by kernel_rfl
theorem cl40 : callable Tryd.prog 40 = true := by kernel_rfl
theorem cl41 : callable Tryd.prog 41 = true := by kernel_rfl

/-- What the reference does with parts: copies one, allows one, writes one. -/
def ostep (c s : Cmd) (p : UInt8) : Cmd :=
  if p = 107 then { s with key := c.key } else if p = 118 then { s with value := c.value } else if p = 116 then { s with tags := c.tags } else if p = 108 then { s with life := c.life } else if p = 110 then { s with ver := c.ver }
  else if p = 109 then { s with keys := c.keys } else if p = 103 then { s with tag := c.tag } else if p = 112 then { s with pre := c.pre } else if p = 99 then { s with child := c.child } else s
def onlyC (c : Cmd) : Cmd := (needs c.op).foldl (ostep c) (cmd0 c.op)
def alC (c : Cmd) (p : UInt8) : Bool :=
  if p = 107 then kv c.key else if p = 118 then vv c.value else if p = 116 then c.tags.all tv && decide (c.tags.length ≤ 16) else if p = 108 then decide (c.life ≠ 0)
  else if p = 109 then c.keys.all kv && decide (1 ≤ c.keys.length ∧ c.keys.length ≤ 16) else if p = 103 then tv c.tag else if p = 112 then pv c.pre else if p = 99 then kv c.child else true
def rvalid (c : Cmd) : Bool := decide (1 ≤ c.op ∧ c.op ≤ 15) && decide (c = onlyC c) && (needs c.op).all (alC c)
def bC (c : Cmd) (p : UInt8) : List UInt8 :=
  if p = 107 then pb c.key else if p = 118 then pb c.value else if p = 116 then wl c.tags else if p = 108 then enc c.life else if p = 110 then enc c.ver
  else if p = 109 then wl c.keys else if p = 103 then pb c.tag else if p = 112 then pb c.pre else pb c.child
def outC (c : Cmd) : List UInt8 := (needs c.op).flatMap (bC c)
theorem drop_getD {ps : List UInt8} {i : Nat} (h : i < ps.length) : ps.drop i = ps.getD i 0 :: ps.drop (i + 1) := by
  rw [List.drop_eq_getElem_cons h, List.getD_eq_getElem?_getD, List.getElem?_eq_getElem h]; rfl
theorem outC_len (c : Cmd) (ps : List UInt8) : (ps.flatMap (bC c)).length ≤ ps.length * (csz c + 10) := by
  induction ps with
  | nil => simp
  | cons p r ih =>
    have h1 := enc_len c.life
    have h2 := enc_len c.ver
    have e (s : List UInt8) : (pb s).length ≤ s.length + 10 := by have := enc_len s.length; rw [len_pb]; omega
    have e1 := e c.key
    have e2 := e c.value
    have e3 := e c.tag
    have e4 := e c.pre
    have e5 := e c.child
    have h3 : (bC c p).length ≤ csz c + 10 := by
      unfold bC csz
      repeat' split
      all_goals omega
    have h4 : (p :: r).length * (csz c + 10) = r.length * (csz c + 10) + (csz c + 10) := by rw [List.length_cons, Nat.succ_mul]
    rw [List.flatMap_cons, List.length_append]; omega

theorem rkv_any (w : World) (s : List UInt8) :
    Fn Tryd.prog 39 #[(.string (strB s))] w (fun v w' => v = .bool (kv s) ∧ w' = w)  := by
  refine fn_enter (args := [(.string (strB s))]) Tryd.func39 rfl rfl rfl ?_
  show WC _ _ _ _ [(0, (.string (strB s)))] _
  refine wc_seq (wc_regionL ?_)
  refine va rfl rfl ?_
  refine q_nil (k_then (wc_seq (wc_regionL ?_)))
  refine vm rfl rfl ?_
  refine wl_val (ov_slen Tryd.underlying9 rfl) rfl rfl rfl ?_
  refine wl_val (ov_geq rfl rfl) rfl rfl rfl ?_
  refine wl_case_d (d := 5) rfl (fun h5 => ?_) (fun h5 => ?_)
  · refine vm rfl rfl ?_
    refine wl_gval (ov_move rfl) rfl rfl rfl rfl rfl ?_
    refine wl_gval (ov_slen Tryd.underlying9 rfl) rfl rfl rfl rfl rfl ?_
    refine wl_gval (ov_leq rfl rfl) rfl rfl rfl rfl rfl ?_
    refine wl_val (ov_pick_t rfl rfl) rfl rfl rfl ?_
    refine va rfl rfl ?_
    refine q_nil (k_then (q_ret ?_))
    refine e_ret rfl rfl ?_
    refine ⟨?_, rfl⟩
    unfold kv
    first | (rw [decide_eq_false]; intro h; omega) | (congr 1; rw [decide_eq_decide]; omega)
  · refine vm rfl rfl ?_
    iterate 3 refine wl_gskip rfl rfl rfl rfl rfl rfl ?_
    refine wl_val (ov_pick_f rfl rfl) rfl rfl rfl ?_
    refine va rfl rfl ?_
    refine q_nil (k_then (q_ret ?_))
    refine e_ret rfl rfl ?_
    refine ⟨?_, rfl⟩
    unfold kv
    first | (rw [decide_eq_false]; intro h; omega) | (congr 1; rw [decide_eq_decide]; omega)

theorem rtv_any (w : World) (s : List UInt8) :
    Fn Tryd.prog 40 #[(.string (strB s))] w (fun v w' => v = .bool (tv s) ∧ w' = w)  := by
  refine fn_enter (args := [(.string (strB s))]) Tryd.func40 rfl rfl rfl ?_
  show WC _ _ _ _ [(0, (.string (strB s)))] _
  refine wc_seq (wc_regionL ?_)
  refine va rfl rfl ?_
  refine q_nil (k_then (wc_seq (wc_regionL ?_)))
  refine vm rfl rfl ?_
  refine wl_val (ov_slen Tryd.underlying9 rfl) rfl rfl rfl ?_
  refine wl_val (ov_geq rfl rfl) rfl rfl rfl ?_
  refine wl_case_d (d := 5) rfl (fun h5 => ?_) (fun h5 => ?_)
  · refine vm rfl rfl ?_
    refine wl_gval (ov_move rfl) rfl rfl rfl rfl rfl ?_
    refine wl_gval (ov_slen Tryd.underlying9 rfl) rfl rfl rfl rfl rfl ?_
    refine wl_gval (ov_leq rfl rfl) rfl rfl rfl rfl rfl ?_
    refine wl_val (ov_pick_t rfl rfl) rfl rfl rfl ?_
    refine va rfl rfl ?_
    refine q_nil (k_then (q_ret ?_))
    refine e_ret rfl rfl ?_
    refine ⟨?_, rfl⟩
    unfold tv
    first | (rw [decide_eq_false]; intro h; omega) | (congr 1; rw [decide_eq_decide]; omega)
  · refine vm rfl rfl ?_
    iterate 3 refine wl_gskip rfl rfl rfl rfl rfl rfl ?_
    refine wl_val (ov_pick_f rfl rfl) rfl rfl rfl ?_
    refine va rfl rfl ?_
    refine q_nil (k_then (q_ret ?_))
    refine e_ret rfl rfl ?_
    refine ⟨?_, rfl⟩
    unfold tv
    first | (rw [decide_eq_false]; intro h; omega) | (congr 1; rw [decide_eq_decide]; omega)

theorem rpv_any (w : World) (s : List UInt8) :
    Fn Tryd.prog 41 #[(.string (strB s))] w (fun v w' => v = .bool (pv s) ∧ w' = w)  := by
  refine fn_enter (args := [(.string (strB s))]) Tryd.func41 rfl rfl rfl ?_
  show WC _ _ _ _ [(0, (.string (strB s)))] _
  refine wc_seq (wc_regionL ?_)
  refine va rfl rfl ?_
  refine q_nil (k_then (wc_seq (wc_regionL ?_)))
  refine vm rfl rfl ?_
  refine wl_val (ov_slen Tryd.underlying9 rfl) rfl rfl rfl ?_
  refine wl_val (ov_leq rfl rfl) rfl rfl rfl ?_
  refine va rfl rfl ?_
  refine q_nil (k_then (q_ret ?_))
  refine e_ret rfl rfl ?_
  refine ⟨?_, rfl⟩
  unfold pv
  congr 1; rw [decide_eq_decide]; omega

theorem rneeds_any (w : World) (op : Int) :
    Fn Tryd.prog 29 #[(.int .i64 op)] w (fun v w' => v = .string (strB (needs op)) ∧ w' = w)  := by
  refine fn_enter (args := [(.int .i64 op)]) Tryd.func29 rfl rfl rfl ?_
  show WC _ _ _ _ [(0, (.int .i64 op))] _
  refine wc_seq (wc_regionL ?_)
  refine va rfl rfl ?_
  refine q_nil (k_then (wc_seq (wc_seq (wc_regionL ?_))))
  refine vm rfl rfl ?_
  refine q_nil (k_then (wc_block (wc_seq (wc_seq (wc_regionL ?_)))))
  refine ve rfl rfl rfl ?_
  refine va rfl rfl ?_
  refine q_nil (k_then ?_)
  refine wc_cond_d rfl (fun hc1 => ?_) (fun hc1 => ?_)
  · refine q_skip (k_then ?_)
    refine wc_cond_T rfl (decide_eq_true hc1) ?_
    refine wc_seq (wc_regionL ?_)
    refine va rfl rfl ?_
    refine q_nil (k_then (q_ret (k_blockR (k_thenR ?_))))
    refine e_ret rfl rfl ?_
    first
      | (exfalso; omega)
      | (refine ⟨?_, rfl⟩; rw [show needs op = [107, 118, 116, 108] from by unfold needs; repeat (first | rw [if_pos (by omega)] | rw [if_neg (by omega)])])
  · refine wc_regionL ?_
    refine ve rfl rfl rfl ?_
    refine va rfl rfl ?_
    refine q_nil (k_then ?_)
    refine wc_cond_d rfl (fun hc2 => ?_) (fun hc2 => ?_)
    · refine wc_seq (wc_regionL ?_)
      refine va rfl rfl ?_
      refine q_nil (k_then (q_ret (k_blockR (k_thenR ?_))))
      refine e_ret rfl rfl ?_
      first
        | (exfalso; omega)
        | (refine ⟨?_, rfl⟩; rw [show needs op = [107, 118, 116, 108] from by unfold needs; repeat (first | rw [if_pos (by omega)] | rw [if_neg (by omega)])])
    · refine wc_seq (wc_regionL ?_)
      refine ve rfl rfl rfl ?_
      refine va rfl rfl ?_
      refine q_nil (k_then ?_)
      refine wc_cond_d rfl (fun hc3 => ?_) (fun hc3 => ?_)
      · refine wc_seq (wc_regionL ?_)
        refine va rfl rfl ?_
        refine q_nil (k_then (q_ret (k_blockR (k_thenR ?_))))
        refine e_ret rfl rfl ?_
        first
          | (exfalso; omega)
          | (refine ⟨?_, rfl⟩; rw [show needs op = [107, 118, 116, 108, 110] from by unfold needs; repeat (first | rw [if_pos (by omega)] | rw [if_neg (by omega)])])
      · refine wc_seq (wc_seq (wc_regionL ?_))
        refine ve rfl rfl rfl ?_
        refine va rfl rfl ?_
        refine q_nil (k_then ?_)
        refine wc_cond_d rfl (fun hc4 => ?_) (fun hc4 => ?_)
        · refine q_skip (k_then ?_)
          refine wc_cond_T rfl (decide_eq_true hc4) ?_
          refine wc_seq (wc_regionL ?_)
          refine va rfl rfl ?_
          refine q_nil (k_then (q_ret (k_blockR (k_thenR ?_))))
          refine e_ret rfl rfl ?_
          first
            | (exfalso; omega)
            | (refine ⟨?_, rfl⟩; rw [show needs op = [107] from by unfold needs; repeat (first | rw [if_pos (by omega)] | rw [if_neg (by omega)])])
        · refine wc_seq (wc_regionL ?_)
          refine ve rfl rfl rfl ?_
          refine va rfl rfl ?_
          refine q_nil (k_then ?_)
          refine wc_cond_d rfl (fun hc5 => ?_) (fun hc5 => ?_)
          · refine q_skip (k_then ?_)
            refine wc_cond_T rfl (decide_eq_true hc5) ?_
            refine wc_seq (wc_regionL ?_)
            refine va rfl rfl ?_
            refine q_nil (k_then (q_ret (k_blockR (k_thenR ?_))))
            refine e_ret rfl rfl ?_
            first
              | (exfalso; omega)
              | (refine ⟨?_, rfl⟩; rw [show needs op = [107] from by unfold needs; repeat (first | rw [if_pos (by omega)] | rw [if_neg (by omega)])])
          · refine wc_regionL ?_
            refine ve rfl rfl rfl ?_
            refine va rfl rfl ?_
            refine q_nil (k_then ?_)
            refine wc_cond_d rfl (fun hc6 => ?_) (fun hc6 => ?_)
            · refine wc_seq (wc_regionL ?_)
              refine va rfl rfl ?_
              refine q_nil (k_then (q_ret (k_blockR (k_thenR ?_))))
              refine e_ret rfl rfl ?_
              first
                | (exfalso; omega)
                | (refine ⟨?_, rfl⟩; rw [show needs op = [107] from by unfold needs; repeat (first | rw [if_pos (by omega)] | rw [if_neg (by omega)])])
            · refine wc_seq (wc_regionL ?_)
              refine ve rfl rfl rfl ?_
              refine va rfl rfl ?_
              refine q_nil (k_then ?_)
              refine wc_cond_d rfl (fun hc7 => ?_) (fun hc7 => ?_)
              · refine wc_seq (wc_regionL ?_)
                refine va rfl rfl ?_
                refine q_nil (k_then (q_ret (k_blockR (k_thenR ?_))))
                refine e_ret rfl rfl ?_
                first
                  | (exfalso; omega)
                  | (refine ⟨?_, rfl⟩; rw [show needs op = [109] from by unfold needs; repeat (first | rw [if_pos (by omega)] | rw [if_neg (by omega)])])
              · refine wc_seq (wc_regionL ?_)
                refine ve rfl rfl rfl ?_
                refine va rfl rfl ?_
                refine q_nil (k_then ?_)
                refine wc_cond_d rfl (fun hc8 => ?_) (fun hc8 => ?_)
                · refine wc_seq (wc_regionL ?_)
                  refine va rfl rfl ?_
                  refine q_nil (k_then (q_ret (k_blockR (k_thenR ?_))))
                  refine e_ret rfl rfl ?_
                  first
                    | (exfalso; omega)
                    | (refine ⟨?_, rfl⟩; rw [show needs op = [107, 108] from by unfold needs; repeat (first | rw [if_pos (by omega)] | rw [if_neg (by omega)])])
                · refine wc_seq (wc_seq (wc_regionL ?_))
                  refine ve rfl rfl rfl ?_
                  refine va rfl rfl ?_
                  refine q_nil (k_then ?_)
                  refine wc_cond_d rfl (fun hc9 => ?_) (fun hc9 => ?_)
                  · refine q_skip (k_then ?_)
                    refine wc_cond_T rfl (decide_eq_true hc9) ?_
                    refine wc_seq (wc_regionL ?_)
                    refine va rfl rfl ?_
                    refine q_nil (k_then (q_ret (k_blockR (k_thenR ?_))))
                    refine e_ret rfl rfl ?_
                    first
                      | (exfalso; omega)
                      | (refine ⟨?_, rfl⟩; rw [show needs op = [103] from by unfold needs; repeat (first | rw [if_pos (by omega)] | rw [if_neg (by omega)])])
                  · refine wc_regionL ?_
                    refine ve rfl rfl rfl ?_
                    refine va rfl rfl ?_
                    refine q_nil (k_then ?_)
                    refine wc_cond_d rfl (fun hc10 => ?_) (fun hc10 => ?_)
                    · refine wc_seq (wc_regionL ?_)
                      refine va rfl rfl ?_
                      refine q_nil (k_then (q_ret (k_blockR (k_thenR ?_))))
                      refine e_ret rfl rfl ?_
                      first
                        | (exfalso; omega)
                        | (refine ⟨?_, rfl⟩; rw [show needs op = [103] from by unfold needs; repeat (first | rw [if_pos (by omega)] | rw [if_neg (by omega)])])
                    · refine wc_seq (wc_regionL ?_)
                      refine ve rfl rfl rfl ?_
                      refine va rfl rfl ?_
                      refine q_nil (k_then ?_)
                      refine wc_cond_d rfl (fun hc11 => ?_) (fun hc11 => ?_)
                      · refine wc_seq (wc_regionL ?_)
                        refine va rfl rfl ?_
                        refine q_nil (k_then (q_ret (k_blockR (k_thenR ?_))))
                        refine e_ret rfl rfl ?_
                        first
                          | (exfalso; omega)
                          | (refine ⟨?_, rfl⟩; rw [show needs op = [112] from by unfold needs; repeat (first | rw [if_pos (by omega)] | rw [if_neg (by omega)])])
                      · refine wc_seq (wc_seq (wc_regionL ?_))
                        refine ve rfl rfl rfl ?_
                        refine va rfl rfl ?_
                        refine q_nil (k_then ?_)
                        refine wc_cond_d rfl (fun hc12 => ?_) (fun hc12 => ?_)
                        · refine q_skip (k_then ?_)
                          refine wc_cond_T rfl (decide_eq_true hc12) ?_
                          refine wc_seq (wc_regionL ?_)
                          refine va rfl rfl ?_
                          refine q_nil (k_then (q_ret (k_blockR (k_thenR ?_))))
                          refine e_ret rfl rfl ?_
                          first
                            | (exfalso; omega)
                            | (refine ⟨?_, rfl⟩; rw [show needs op = [107, 99] from by unfold needs; repeat (first | rw [if_pos (by omega)] | rw [if_neg (by omega)])])
                        · refine wc_regionL ?_
                          refine ve rfl rfl rfl ?_
                          refine va rfl rfl ?_
                          refine q_nil (k_then ?_)
                          refine wc_cond_d rfl (fun hc13 => ?_) (fun hc13 => ?_)
                          · refine wc_seq (wc_regionL ?_)
                            refine va rfl rfl ?_
                            refine q_nil (k_then (q_ret (k_blockR (k_thenR ?_))))
                            refine e_ret rfl rfl ?_
                            first
                              | (exfalso; omega)
                              | (refine ⟨?_, rfl⟩; rw [show needs op = [107, 99] from by unfold needs; repeat (first | rw [if_pos (by omega)] | rw [if_neg (by omega)])])
                          · refine q_skip (k_block (k_then (wc_seq (wc_regionL ?_))))
                            refine va rfl rfl ?_
                            refine q_nil (k_then (q_ret ?_))
                            refine e_ret rfl rfl ?_
                            first
                              | (exfalso; omega)
                              | (refine ⟨?_, rfl⟩; rw [show needs op = [] from by unfold needs; repeat (first | rw [if_pos (by omega)] | rw [if_neg (by omega)])])

theorem only_any (w : World) (c : Cmd) (lo hi : Nat) (K : Option Addr) (ck : Nat) (V : Option Addr) (cv : Nat) (T : Option Addr) (ct : Nat) (hK : RdS w lo hi K ck c.keys) (hV : RdB w lo hi V cv c.value) (hT : RdS w lo hi T ct c.tags) :
    Fn Tryd.prog 28 #[(.agg #[(.int .i64 c.op), (.string (strB c.key)), (.slice K c.keys.length ck), (.slice V c.value.length cv), (.slice T c.tags.length ct), (.int .u64 (↑c.life : Int)), (.int .u64 (↑c.ver : Int)), (.string (strB c.tag)), (.string (strB c.pre)), (.string (strB c.child))])] w (fun v w' => ∃ K1 k1 V1 v1 T1 t1, v = .agg (cmdc (onlyC c) K1 k1 V1 v1 T1 t1).toArray ∧ RdS w' lo w.heap.size K1 k1 (onlyC c).keys ∧ RdB w' lo w.heap.size V1 v1 (onlyC c).value ∧ RdS w' lo w.heap.size T1 t1 (onlyC c).tags ∧ Ext w w')  := by
  replace hK := hK.top
  replace hV := hV.top
  replace hT := hT.top
  have hE := ext_refl w
  refine fn_enter (args := [(.agg #[(.int .i64 c.op), (.string (strB c.key)), (.slice K c.keys.length ck), (.slice V c.value.length cv), (.slice T c.tags.length ct), (.int .u64 (↑c.life : Int)), (.int .u64 (↑c.ver : Int)), (.string (strB c.tag)), (.string (strB c.pre)), (.string (strB c.child))])]) Tryd.func28 rfl rfl rfl ?_
  show WC _ _ _ _ [(0, (.agg #[(.int .i64 c.op), (.string (strB c.key)), (.slice K c.keys.length ck), (.slice V c.value.length cv), (.slice T c.tags.length ct), (.int .u64 (↑c.life : Int)), (.int .u64 (↑c.ver : Int)), (.string (strB c.tag)), (.string (strB c.pre)), (.string (strB c.child))]))] _
  refine wc_seq (wc_regionL ?_)
  refine wl_step (or_box (cs := [(.int .i64 c.op), (.string (strB c.key)), (.slice K c.keys.length ck), (.slice V c.value.length cv), (.slice T c.tags.length ct), (.int .u64 (↑c.life : Int)), (.int .u64 (↑c.ver : Int)), (.string (strB c.tag)), (.string (strB c.pre)), (.string (strB c.child))]) rfl rfl) rfl rfl rfl ?_
  rintro v w1 ⟨g1, rfl, hb_g1, he1, hl1, hu1⟩
  replace hK := hK.ext he1
  replace hV := hV.ext he1
  replace hT := hT.ext he1
  replace hE := hE.tr he1
  have hz_he1 := he1.size
  refine wl_step (or_alloc (cs := [(.int .i64 0), (.string (strB [])), (.slice none 0 0), (.slice none 0 0), (.slice none 0 0), (.int .u64 0), (.int .u64 0), (.string (strB [])), (.string (strB [])), (.string (strB []))]) ze36 rfl) rfl rfl rfl ?_
  rintro v w2 ⟨g2, rfl, hb_g2, he2, hl2, hu2⟩
  replace hK := hK.ext he2
  replace hV := hV.ext he2
  replace hT := hT.ext he2
  replace hE := hE.tr he2
  replace hb_g1 := hb_g1.ext he2
  have hz_he2 := he2.size
  refine q_nil (k_then (wc_seq (wc_regionL ?_)))
  refine wl_val (ov_field0 (off := 0) fo36_0 rfl) rfl rfl rfl ?_
  refine wl_val (ov_loadAt oc22 rfl hb_g1 rfl) rfl rfl rfl ?_
  refine wl_val (ov_build (cs := [(.int .i64 c.op), (.string (strB [])), (.slice none 0 0), (.slice none 0 0), (.slice none 0 0), (.int .u64 0), (.int .u64 0), (.string (strB [])), (.string (strB [])), (.string (strB []))]) ze36 pl36 rfl rfl) rfl rfl rfl ?_
  refine wl_step (or_alloc (cs := [(.int .i64 0), (.string (strB [])), (.slice none 0 0), (.slice none 0 0), (.slice none 0 0), (.int .u64 0), (.int .u64 0), (.string (strB [])), (.string (strB [])), (.string (strB []))]) ze36 rfl) rfl rfl rfl ?_
  rintro v w3 ⟨g3, rfl, hb_g3, he3, hl3, hu3⟩
  replace hK := hK.ext he3
  replace hV := hV.ext he3
  replace hT := hT.ext he3
  replace hE := hE.tr he3
  replace hb_g1 := hb_g1.ext he3
  replace hb_g2 := hb_g2.ext he3
  have hz_he3 := he3.size
  refine wl_step0 (or_storeBlk (vs := [(.int .i64 c.op), (.string (strB [])), (.slice none 0 0), (.slice none 0 0), (.slice none 0 0), (.int .u64 0), (.int .u64 0), (.string (strB [])), (.string (strB [])), (.string (strB []))]) sz36 rfl rfl (by simp [Value.oneCell']) hb_g3 rfl) rfl rfl ?_
  rintro _ w4 ⟨hN4, hg4⟩
  have hz_hg4 := hg4.size
  replace hK := hK.gr hg4 (fun _ e => by cases e; omega)
  replace hV := hV.gr hg4 (fun _ e => by cases e; omega)
  replace hT := hT.gr hg4 (fun _ e => by cases e; omega)
  replace hE := hE.gr hg4 (fun _ e => by cases e; omega)
  replace hb_g1 := hb_g1.gr hg4 (by intro e; cases e; omega)
  replace hb_g2 := hb_g2.gr hg4 (by intro e; cases e; omega)
  replace hb_g3 := hN4
  refine q_nil (k_then (wc_seq (wc_regionL ?_)))
  refine wl_val (ov_field0 (off := 0) fo36_0 rfl) rfl rfl rfl ?_
  refine wl_val (ov_loadAt oc22 rfl hb_g1 rfl) rfl rfl rfl ?_
  refine wl_val (or_call0 cl29 rfl rfl (rneeds_any _ c.op)) rfl rfl rfl ?_
  refine va rfl rfl ?_
  refine q_nil (k_then (wc_seq (wc_seq (wc_regionL ?_))))
  refine va rfl rfl ?_
  refine q_nil (k_then (wc_block ?_))
  refine wc_loop (σ := Nat × Cmd) (fun s => (needs c.op).length - s.1) (fun s => [(1, .pointer (some ⟨g1, 0, none⟩)), (2, .pointer (some ⟨g2, 0, none⟩)), (3, .pointer (some ⟨g3, 0, none⟩)), (4, .string (strB (needs c.op))), (5, .int .i64 (s.1 : Int))]) (fun s w' => s.1 ≤ (needs c.op).length ∧ onlyC c = ((needs c.op).drop s.1).foldl (ostep c) s.2 ∧ Blk w' g1 36 (cmdc c K ck V cv T ct) ∧ Blk w' g2 36 [(.int .i64 0), (.string (strB ([] : List UInt8))), (.slice none 0 0), (.slice none 0 0), (.slice none 0 0), (.int .u64 0), (.int .u64 0), (.string (strB ([] : List UInt8))), (.string (strB ([] : List UInt8))), (.string (strB ([] : List UInt8)))] ∧ (∃ K1 k1 V1 v1 T1 t1, Blk w' g3 36 (cmdc s.2 K1 k1 V1 v1 T1 t1) ∧ RdS w' lo w.heap.size K1 k1 s.2.keys ∧ RdB w' lo w.heap.size V1 v1 s.2.value ∧ RdS w' lo w.heap.size T1 t1 s.2.tags) ∧ RdS w' lo w.heap.size K ck c.keys ∧ RdB w' lo w.heap.size V cv c.value ∧ RdS w' lo w.heap.size T ct c.tags ∧ Ext w w') ((0, cmd0 c.op)) (⟨Nat.zero_le _, rfl, hb_g1, hb_g2, ⟨none, 0, none, 0, none, 0, hb_g3, Rd.nil _ _ _ _ _ _ (Nat.zero_le _), Rd.nil _ _ _ _ _ _ (Nat.zero_le _), Rd.nil _ _ _ _ _ _ (Nat.zero_le _)⟩, hK, hV, hT, hE⟩) (⟨rfl, rfl, rfl, rfl, rfl, trivial⟩) ?_
  rintro ⟨i, s⟩ wq ⟨hi0, hfo, hb_g1, hb_g2, ⟨K1, k1, V1, v1, T1, t1, hb_g3, hK1, hV1, hT1⟩, hK, hV, hT, hE⟩
  show WC _ _ _ _ [(1, (.pointer (some ⟨g1, 0, none⟩))), (2, (.pointer (some ⟨g2, 0, none⟩))), (3, (.pointer (some ⟨g3, 0, none⟩))), (4, (.string (strB (needs c.op)))), (5, (.int .i64 (↑i : Int)))] _
  simp only at hi0 hfo
  have hl5 := needs_len c.op
  have hz_E := hE.size
  have hzb1 := hb_g1.lt
  have hzb2 := hb_g2.lt
  have hzb3 := hb_g3.lt
  replace hb_g1 : Blk wq g1 36 [(.int .i64 c.op), (.string (strB c.key)), (.slice K c.keys.length ck), (.slice V c.value.length cv), (.slice T c.tags.length ct), (.int .u64 (↑c.life : Int)), (.int .u64 (↑c.ver : Int)), (.string (strB c.tag)), (.string (strB c.pre)), (.string (strB c.child))] := hb_g1
  replace hb_g3 : Blk wq g3 36 [(.int .i64 s.op), (.string (strB s.key)), (.slice K1 s.keys.length k1), (.slice V1 s.value.length v1), (.slice T1 s.tags.length t1), (.int .u64 (↑s.life : Int)), (.int .u64 (↑s.ver : Int)), (.string (strB s.tag)), (.string (strB s.pre)), (.string (strB s.child))] := hb_g3
  refine wc_seq (wc_seq (wc_regionL ?_))
  iterate 2 refine vm rfl rfl ?_
  refine wl_val (ov_slen Tryd.underlying9 rfl) rfl rfl rfl ?_
  refine wl_val (ov_lss rfl rfl) rfl rfl rfl ?_
  refine q_nil (k_then ?_)
  refine wc_cond_d rfl (fun hc1 => ?_) (fun hc1 => ?_)
  · refine q_skip (k_then (wc_seq (wc_block (wc_seq (wc_regionL ?_)))))
    iterate 2 refine vm rfl rfl ?_
    refine wl_val (ov_sindex (l := (needs c.op)) (i := (↑i : Int)) Tryd.underlying9 rfl rfl (by omega) (by omega)) rfl rfl rfl ?_
    refine q_nil (k_then (wc_block (wc_seq (wc_regionL ?_))))
    refine ve rfl rfl rfl ?_
    refine va rfl rfl ?_
    refine q_nil (k_then ?_)
    refine wc_cond_d rfl (fun hc2 => ?_) (fun hc2 => ?_)
    · have eb : ((needs c.op).getD i 0) = 107 := toNat_inj hc2
      have hst : ostep c s ((needs c.op).getD i 0) = { s with key := c.key } := by rw [eb]; rfl
      refine wc_regionL ?_
      refine wl_val (ov_field0 (off := 1) fo36_1 rfl) rfl rfl rfl ?_
      refine wl_val (ov_loadAt oc9 rfl hb_g1 rfl) rfl rfl rfl ?_
      refine wl_val (ov_field0 (off := 1) fo36_1 rfl) rfl rfl rfl ?_
      refine wl_step0 (or_storeAt (cs' := [(.int .i64 s.op), (.string (strB c.key)), (.slice K1 s.keys.length k1), (.slice V1 s.value.length v1), (.slice T1 s.tags.length t1), (.int .u64 (↑s.life : Int)), (.int .u64 (↑s.ver : Int)), (.string (strB s.tag)), (.string (strB s.pre)), (.string (strB s.child))]) sz9 rfl rfl rfl hb_g3 rfl rfl) rfl rfl ?_
      rintro _ w5 ⟨hN5, hg5⟩
      have hz_hg5 := hg5.size
      replace hK := hK.gr hg5 (fun _ e => by cases e; omega)
      replace hV := hV.gr hg5 (fun _ e => by cases e; omega)
      replace hT := hT.gr hg5 (fun _ e => by cases e; omega)
      replace hb_g1 := hb_g1.gr hg5 (by intro e; cases e; omega)
      replace hb_g2 := hb_g2.gr hg5 (by intro e; cases e; omega)
      replace hK1 := hK1.gr hg5 (fun _ e => by cases e; omega)
      replace hV1 := hV1.gr hg5 (fun _ e => by cases e; omega)
      replace hT1 := hT1.gr hg5 (fun _ e => by cases e; omega)
      replace hE := hE.gr hg5 (fun _ e => by cases e; omega)
      replace hb_g3 := hN5
      refine q_nil (k_block (k_block (k_then (wc_regionL ?_))))
      refine vm rfl rfl ?_
      refine wl_val (ov_add rfl rfl (wi64 (by omega) (by omega))) rfl rfl rfl ?_
      refine va rfl rfl ?_
      refine q_nil ?_
      refine k_loop ((i + 1, { s with key := c.key })) (by show (needs c.op).length - (i + 1) < (needs c.op).length - i; omega) (⟨rfl, rfl, rfl, rfl, rfl, trivial⟩) (⟨by show i + 1 ≤ _; omega, by show onlyC c = ((needs c.op).drop (i + 1)).foldl (ostep c) { s with key := c.key }; rw [hfo, drop_getD (by omega), List.foldl_cons, hst], hb_g1, hb_g2, ⟨K1, k1, V1, v1, T1, t1, hb_g3, hK1, hV1, hT1⟩, hK, hV, hT, hE⟩)
    · have nb107 : ¬ ((needs c.op).getD i 0) = 107 := fun e => hc2 (show (↑((needs c.op).getD i 0).toNat : Int) = 107 by rw [e]; rfl)
      refine wc_seq (wc_regionL ?_)
      refine ve rfl rfl rfl ?_
      refine va rfl rfl ?_
      refine q_nil (k_then ?_)
      refine wc_cond_d rfl (fun hc3 => ?_) (fun hc3 => ?_)
      · have eb : ((needs c.op).getD i 0) = 118 := toNat_inj hc3
        have hst : ostep c s ((needs c.op).getD i 0) = { s with value := c.value } := by rw [eb]; rfl
        refine wc_regionL ?_
        refine wl_val (ov_field0 (off := 3) fo36_3 rfl) rfl rfl rfl ?_
        refine wl_val (ov_loadAt oc32 rfl hb_g1 rfl) rfl rfl rfl ?_
        refine wl_val (ov_field0 (off := 3) fo36_3 rfl) rfl rfl rfl ?_
        refine wl_step0 (or_storeAt (cs' := [(.int .i64 s.op), (.string (strB s.key)), (.slice K1 s.keys.length k1), (.slice V c.value.length cv), (.slice T1 s.tags.length t1), (.int .u64 (↑s.life : Int)), (.int .u64 (↑s.ver : Int)), (.string (strB s.tag)), (.string (strB s.pre)), (.string (strB s.child))]) sz32 rfl rfl rfl hb_g3 rfl rfl) rfl rfl ?_
        rintro _ w205 ⟨hN205, hg205⟩
        have hz_hg205 := hg205.size
        replace hK := hK.gr hg205 (fun _ e => by cases e; omega)
        replace hV := hV.gr hg205 (fun _ e => by cases e; omega)
        replace hT := hT.gr hg205 (fun _ e => by cases e; omega)
        replace hb_g1 := hb_g1.gr hg205 (by intro e; cases e; omega)
        replace hb_g2 := hb_g2.gr hg205 (by intro e; cases e; omega)
        replace hK1 := hK1.gr hg205 (fun _ e => by cases e; omega)
        replace hV1 := hV1.gr hg205 (fun _ e => by cases e; omega)
        replace hT1 := hT1.gr hg205 (fun _ e => by cases e; omega)
        replace hE := hE.gr hg205 (fun _ e => by cases e; omega)
        replace hb_g3 := hN205
        refine q_nil (k_block (k_block (k_then (wc_regionL ?_))))
        refine vm rfl rfl ?_
        refine wl_val (ov_add rfl rfl (wi64 (by omega) (by omega))) rfl rfl rfl ?_
        refine va rfl rfl ?_
        refine q_nil ?_
        refine k_loop ((i + 1, { s with value := c.value })) (by show (needs c.op).length - (i + 1) < (needs c.op).length - i; omega) (⟨rfl, rfl, rfl, rfl, rfl, trivial⟩) (⟨by show i + 1 ≤ _; omega, by show onlyC c = ((needs c.op).drop (i + 1)).foldl (ostep c) { s with value := c.value }; rw [hfo, drop_getD (by omega), List.foldl_cons, hst], hb_g1, hb_g2, ⟨K1, k1, V, cv, T1, t1, hb_g3, hK1, hV, hT1⟩, hK, hV, hT, hE⟩)
      · have nb118 : ¬ ((needs c.op).getD i 0) = 118 := fun e => hc3 (show (↑((needs c.op).getD i 0).toNat : Int) = 118 by rw [e]; rfl)
        refine wc_seq (wc_regionL ?_)
        refine ve rfl rfl rfl ?_
        refine va rfl rfl ?_
        refine q_nil (k_then ?_)
        refine wc_cond_d rfl (fun hc4 => ?_) (fun hc4 => ?_)
        · have eb : ((needs c.op).getD i 0) = 116 := toNat_inj hc4
          have hst : ostep c s ((needs c.op).getD i 0) = { s with tags := c.tags } := by rw [eb]; rfl
          refine wc_regionL ?_
          refine wl_val (ov_field0 (off := 4) fo36_4 rfl) rfl rfl rfl ?_
          refine wl_val (ov_loadAt oc27 rfl hb_g1 rfl) rfl rfl rfl ?_
          refine wl_val (ov_field0 (off := 4) fo36_4 rfl) rfl rfl rfl ?_
          refine wl_step0 (or_storeAt (cs' := [(.int .i64 s.op), (.string (strB s.key)), (.slice K1 s.keys.length k1), (.slice V1 s.value.length v1), (.slice T c.tags.length ct), (.int .u64 (↑s.life : Int)), (.int .u64 (↑s.ver : Int)), (.string (strB s.tag)), (.string (strB s.pre)), (.string (strB s.child))]) sz27 rfl rfl rfl hb_g3 rfl rfl) rfl rfl ?_
          rintro _ w205 ⟨hN205, hg205⟩
          have hz_hg205 := hg205.size
          replace hK := hK.gr hg205 (fun _ e => by cases e; omega)
          replace hV := hV.gr hg205 (fun _ e => by cases e; omega)
          replace hT := hT.gr hg205 (fun _ e => by cases e; omega)
          replace hb_g1 := hb_g1.gr hg205 (by intro e; cases e; omega)
          replace hb_g2 := hb_g2.gr hg205 (by intro e; cases e; omega)
          replace hK1 := hK1.gr hg205 (fun _ e => by cases e; omega)
          replace hV1 := hV1.gr hg205 (fun _ e => by cases e; omega)
          replace hT1 := hT1.gr hg205 (fun _ e => by cases e; omega)
          replace hE := hE.gr hg205 (fun _ e => by cases e; omega)
          replace hb_g3 := hN205
          refine q_nil (k_block (k_block (k_then (wc_regionL ?_))))
          refine vm rfl rfl ?_
          refine wl_val (ov_add rfl rfl (wi64 (by omega) (by omega))) rfl rfl rfl ?_
          refine va rfl rfl ?_
          refine q_nil ?_
          refine k_loop ((i + 1, { s with tags := c.tags })) (by show (needs c.op).length - (i + 1) < (needs c.op).length - i; omega) (⟨rfl, rfl, rfl, rfl, rfl, trivial⟩) (⟨by show i + 1 ≤ _; omega, by show onlyC c = ((needs c.op).drop (i + 1)).foldl (ostep c) { s with tags := c.tags }; rw [hfo, drop_getD (by omega), List.foldl_cons, hst], hb_g1, hb_g2, ⟨K1, k1, V1, v1, T, ct, hb_g3, hK1, hV1, hT⟩, hK, hV, hT, hE⟩)
        · have nb116 : ¬ ((needs c.op).getD i 0) = 116 := fun e => hc4 (show (↑((needs c.op).getD i 0).toNat : Int) = 116 by rw [e]; rfl)
          refine wc_seq (wc_regionL ?_)
          refine ve rfl rfl rfl ?_
          refine va rfl rfl ?_
          refine q_nil (k_then ?_)
          refine wc_cond_d rfl (fun hc5 => ?_) (fun hc5 => ?_)
          · have eb : ((needs c.op).getD i 0) = 108 := toNat_inj hc5
            have hst : ostep c s ((needs c.op).getD i 0) = { s with life := c.life } := by rw [eb]; rfl
            refine wc_regionL ?_
            refine wl_val (ov_field0 (off := 5) fo36_5 rfl) rfl rfl rfl ?_
            refine wl_val (ov_loadAt oc34 rfl hb_g1 rfl) rfl rfl rfl ?_
            refine wl_val (ov_field0 (off := 5) fo36_5 rfl) rfl rfl rfl ?_
            refine wl_step0 (or_storeAt (cs' := [(.int .i64 s.op), (.string (strB s.key)), (.slice K1 s.keys.length k1), (.slice V1 s.value.length v1), (.slice T1 s.tags.length t1), (.int .u64 (↑c.life : Int)), (.int .u64 (↑s.ver : Int)), (.string (strB s.tag)), (.string (strB s.pre)), (.string (strB s.child))]) sz34 rfl rfl rfl hb_g3 rfl rfl) rfl rfl ?_
            rintro _ w205 ⟨hN205, hg205⟩
            have hz_hg205 := hg205.size
            replace hK := hK.gr hg205 (fun _ e => by cases e; omega)
            replace hV := hV.gr hg205 (fun _ e => by cases e; omega)
            replace hT := hT.gr hg205 (fun _ e => by cases e; omega)
            replace hb_g1 := hb_g1.gr hg205 (by intro e; cases e; omega)
            replace hb_g2 := hb_g2.gr hg205 (by intro e; cases e; omega)
            replace hK1 := hK1.gr hg205 (fun _ e => by cases e; omega)
            replace hV1 := hV1.gr hg205 (fun _ e => by cases e; omega)
            replace hT1 := hT1.gr hg205 (fun _ e => by cases e; omega)
            replace hE := hE.gr hg205 (fun _ e => by cases e; omega)
            replace hb_g3 := hN205
            refine q_nil (k_block (k_block (k_then (wc_regionL ?_))))
            refine vm rfl rfl ?_
            refine wl_val (ov_add rfl rfl (wi64 (by omega) (by omega))) rfl rfl rfl ?_
            refine va rfl rfl ?_
            refine q_nil ?_
            refine k_loop ((i + 1, { s with life := c.life })) (by show (needs c.op).length - (i + 1) < (needs c.op).length - i; omega) (⟨rfl, rfl, rfl, rfl, rfl, trivial⟩) (⟨by show i + 1 ≤ _; omega, by show onlyC c = ((needs c.op).drop (i + 1)).foldl (ostep c) { s with life := c.life }; rw [hfo, drop_getD (by omega), List.foldl_cons, hst], hb_g1, hb_g2, ⟨K1, k1, V1, v1, T1, t1, hb_g3, hK1, hV1, hT1⟩, hK, hV, hT, hE⟩)
          · have nb108 : ¬ ((needs c.op).getD i 0) = 108 := fun e => hc5 (show (↑((needs c.op).getD i 0).toNat : Int) = 108 by rw [e]; rfl)
            refine wc_seq (wc_regionL ?_)
            refine ve rfl rfl rfl ?_
            refine va rfl rfl ?_
            refine q_nil (k_then ?_)
            refine wc_cond_d rfl (fun hc6 => ?_) (fun hc6 => ?_)
            · have eb : ((needs c.op).getD i 0) = 110 := toNat_inj hc6
              have hst : ostep c s ((needs c.op).getD i 0) = { s with ver := c.ver } := by rw [eb]; rfl
              refine wc_regionL ?_
              refine wl_val (ov_field0 (off := 6) fo36_6 rfl) rfl rfl rfl ?_
              refine wl_val (ov_loadAt oc33 rfl hb_g1 rfl) rfl rfl rfl ?_
              refine wl_val (ov_field0 (off := 6) fo36_6 rfl) rfl rfl rfl ?_
              refine wl_step0 (or_storeAt (cs' := [(.int .i64 s.op), (.string (strB s.key)), (.slice K1 s.keys.length k1), (.slice V1 s.value.length v1), (.slice T1 s.tags.length t1), (.int .u64 (↑s.life : Int)), (.int .u64 (↑c.ver : Int)), (.string (strB s.tag)), (.string (strB s.pre)), (.string (strB s.child))]) sz33 rfl rfl rfl hb_g3 rfl rfl) rfl rfl ?_
              rintro _ w205 ⟨hN205, hg205⟩
              have hz_hg205 := hg205.size
              replace hK := hK.gr hg205 (fun _ e => by cases e; omega)
              replace hV := hV.gr hg205 (fun _ e => by cases e; omega)
              replace hT := hT.gr hg205 (fun _ e => by cases e; omega)
              replace hb_g1 := hb_g1.gr hg205 (by intro e; cases e; omega)
              replace hb_g2 := hb_g2.gr hg205 (by intro e; cases e; omega)
              replace hK1 := hK1.gr hg205 (fun _ e => by cases e; omega)
              replace hV1 := hV1.gr hg205 (fun _ e => by cases e; omega)
              replace hT1 := hT1.gr hg205 (fun _ e => by cases e; omega)
              replace hE := hE.gr hg205 (fun _ e => by cases e; omega)
              replace hb_g3 := hN205
              refine q_nil (k_block (k_block (k_then (wc_regionL ?_))))
              refine vm rfl rfl ?_
              refine wl_val (ov_add rfl rfl (wi64 (by omega) (by omega))) rfl rfl rfl ?_
              refine va rfl rfl ?_
              refine q_nil ?_
              refine k_loop ((i + 1, { s with ver := c.ver })) (by show (needs c.op).length - (i + 1) < (needs c.op).length - i; omega) (⟨rfl, rfl, rfl, rfl, rfl, trivial⟩) (⟨by show i + 1 ≤ _; omega, by show onlyC c = ((needs c.op).drop (i + 1)).foldl (ostep c) { s with ver := c.ver }; rw [hfo, drop_getD (by omega), List.foldl_cons, hst], hb_g1, hb_g2, ⟨K1, k1, V1, v1, T1, t1, hb_g3, hK1, hV1, hT1⟩, hK, hV, hT, hE⟩)
            · have nb110 : ¬ ((needs c.op).getD i 0) = 110 := fun e => hc6 (show (↑((needs c.op).getD i 0).toNat : Int) = 110 by rw [e]; rfl)
              refine wc_seq (wc_regionL ?_)
              refine ve rfl rfl rfl ?_
              refine va rfl rfl ?_
              refine q_nil (k_then ?_)
              refine wc_cond_d rfl (fun hc7 => ?_) (fun hc7 => ?_)
              · have eb : ((needs c.op).getD i 0) = 109 := toNat_inj hc7
                have hst : ostep c s ((needs c.op).getD i 0) = { s with keys := c.keys } := by rw [eb]; rfl
                refine wc_regionL ?_
                refine wl_val (ov_field0 (off := 2) fo36_2 rfl) rfl rfl rfl ?_
                refine wl_val (ov_loadAt oc27 rfl hb_g1 rfl) rfl rfl rfl ?_
                refine wl_val (ov_field0 (off := 2) fo36_2 rfl) rfl rfl rfl ?_
                refine wl_step0 (or_storeAt (cs' := [(.int .i64 s.op), (.string (strB s.key)), (.slice K c.keys.length ck), (.slice V1 s.value.length v1), (.slice T1 s.tags.length t1), (.int .u64 (↑s.life : Int)), (.int .u64 (↑s.ver : Int)), (.string (strB s.tag)), (.string (strB s.pre)), (.string (strB s.child))]) sz27 rfl rfl rfl hb_g3 rfl rfl) rfl rfl ?_
                rintro _ w205 ⟨hN205, hg205⟩
                have hz_hg205 := hg205.size
                replace hK := hK.gr hg205 (fun _ e => by cases e; omega)
                replace hV := hV.gr hg205 (fun _ e => by cases e; omega)
                replace hT := hT.gr hg205 (fun _ e => by cases e; omega)
                replace hb_g1 := hb_g1.gr hg205 (by intro e; cases e; omega)
                replace hb_g2 := hb_g2.gr hg205 (by intro e; cases e; omega)
                replace hK1 := hK1.gr hg205 (fun _ e => by cases e; omega)
                replace hV1 := hV1.gr hg205 (fun _ e => by cases e; omega)
                replace hT1 := hT1.gr hg205 (fun _ e => by cases e; omega)
                replace hE := hE.gr hg205 (fun _ e => by cases e; omega)
                replace hb_g3 := hN205
                refine q_nil (k_block (k_block (k_then (wc_regionL ?_))))
                refine vm rfl rfl ?_
                refine wl_val (ov_add rfl rfl (wi64 (by omega) (by omega))) rfl rfl rfl ?_
                refine va rfl rfl ?_
                refine q_nil ?_
                refine k_loop ((i + 1, { s with keys := c.keys })) (by show (needs c.op).length - (i + 1) < (needs c.op).length - i; omega) (⟨rfl, rfl, rfl, rfl, rfl, trivial⟩) (⟨by show i + 1 ≤ _; omega, by show onlyC c = ((needs c.op).drop (i + 1)).foldl (ostep c) { s with keys := c.keys }; rw [hfo, drop_getD (by omega), List.foldl_cons, hst], hb_g1, hb_g2, ⟨K, ck, V1, v1, T1, t1, hb_g3, hK, hV1, hT1⟩, hK, hV, hT, hE⟩)
              · have nb109 : ¬ ((needs c.op).getD i 0) = 109 := fun e => hc7 (show (↑((needs c.op).getD i 0).toNat : Int) = 109 by rw [e]; rfl)
                refine wc_seq (wc_regionL ?_)
                refine ve rfl rfl rfl ?_
                refine va rfl rfl ?_
                refine q_nil (k_then ?_)
                refine wc_cond_d rfl (fun hc8 => ?_) (fun hc8 => ?_)
                · have eb : ((needs c.op).getD i 0) = 103 := toNat_inj hc8
                  have hst : ostep c s ((needs c.op).getD i 0) = { s with tag := c.tag } := by rw [eb]; rfl
                  refine wc_regionL ?_
                  refine wl_val (ov_field0 (off := 7) fo36_7 rfl) rfl rfl rfl ?_
                  refine wl_val (ov_loadAt oc9 rfl hb_g1 rfl) rfl rfl rfl ?_
                  refine wl_val (ov_field0 (off := 7) fo36_7 rfl) rfl rfl rfl ?_
                  refine wl_step0 (or_storeAt (cs' := [(.int .i64 s.op), (.string (strB s.key)), (.slice K1 s.keys.length k1), (.slice V1 s.value.length v1), (.slice T1 s.tags.length t1), (.int .u64 (↑s.life : Int)), (.int .u64 (↑s.ver : Int)), (.string (strB c.tag)), (.string (strB s.pre)), (.string (strB s.child))]) sz9 rfl rfl rfl hb_g3 rfl rfl) rfl rfl ?_
                  rintro _ w205 ⟨hN205, hg205⟩
                  have hz_hg205 := hg205.size
                  replace hK := hK.gr hg205 (fun _ e => by cases e; omega)
                  replace hV := hV.gr hg205 (fun _ e => by cases e; omega)
                  replace hT := hT.gr hg205 (fun _ e => by cases e; omega)
                  replace hb_g1 := hb_g1.gr hg205 (by intro e; cases e; omega)
                  replace hb_g2 := hb_g2.gr hg205 (by intro e; cases e; omega)
                  replace hK1 := hK1.gr hg205 (fun _ e => by cases e; omega)
                  replace hV1 := hV1.gr hg205 (fun _ e => by cases e; omega)
                  replace hT1 := hT1.gr hg205 (fun _ e => by cases e; omega)
                  replace hE := hE.gr hg205 (fun _ e => by cases e; omega)
                  replace hb_g3 := hN205
                  refine q_nil (k_block (k_block (k_then (wc_regionL ?_))))
                  refine vm rfl rfl ?_
                  refine wl_val (ov_add rfl rfl (wi64 (by omega) (by omega))) rfl rfl rfl ?_
                  refine va rfl rfl ?_
                  refine q_nil ?_
                  refine k_loop ((i + 1, { s with tag := c.tag })) (by show (needs c.op).length - (i + 1) < (needs c.op).length - i; omega) (⟨rfl, rfl, rfl, rfl, rfl, trivial⟩) (⟨by show i + 1 ≤ _; omega, by show onlyC c = ((needs c.op).drop (i + 1)).foldl (ostep c) { s with tag := c.tag }; rw [hfo, drop_getD (by omega), List.foldl_cons, hst], hb_g1, hb_g2, ⟨K1, k1, V1, v1, T1, t1, hb_g3, hK1, hV1, hT1⟩, hK, hV, hT, hE⟩)
                · have nb103 : ¬ ((needs c.op).getD i 0) = 103 := fun e => hc8 (show (↑((needs c.op).getD i 0).toNat : Int) = 103 by rw [e]; rfl)
                  refine wc_seq (wc_regionL ?_)
                  refine ve rfl rfl rfl ?_
                  refine va rfl rfl ?_
                  refine q_nil (k_then ?_)
                  refine wc_cond_d rfl (fun hc9 => ?_) (fun hc9 => ?_)
                  · have eb : ((needs c.op).getD i 0) = 112 := toNat_inj hc9
                    have hst : ostep c s ((needs c.op).getD i 0) = { s with pre := c.pre } := by rw [eb]; rfl
                    refine wc_regionL ?_
                    refine wl_val (ov_field0 (off := 8) fo36_8 rfl) rfl rfl rfl ?_
                    refine wl_val (ov_loadAt oc9 rfl hb_g1 rfl) rfl rfl rfl ?_
                    refine wl_val (ov_field0 (off := 8) fo36_8 rfl) rfl rfl rfl ?_
                    refine wl_step0 (or_storeAt (cs' := [(.int .i64 s.op), (.string (strB s.key)), (.slice K1 s.keys.length k1), (.slice V1 s.value.length v1), (.slice T1 s.tags.length t1), (.int .u64 (↑s.life : Int)), (.int .u64 (↑s.ver : Int)), (.string (strB s.tag)), (.string (strB c.pre)), (.string (strB s.child))]) sz9 rfl rfl rfl hb_g3 rfl rfl) rfl rfl ?_
                    rintro _ w205 ⟨hN205, hg205⟩
                    have hz_hg205 := hg205.size
                    replace hK := hK.gr hg205 (fun _ e => by cases e; omega)
                    replace hV := hV.gr hg205 (fun _ e => by cases e; omega)
                    replace hT := hT.gr hg205 (fun _ e => by cases e; omega)
                    replace hb_g1 := hb_g1.gr hg205 (by intro e; cases e; omega)
                    replace hb_g2 := hb_g2.gr hg205 (by intro e; cases e; omega)
                    replace hK1 := hK1.gr hg205 (fun _ e => by cases e; omega)
                    replace hV1 := hV1.gr hg205 (fun _ e => by cases e; omega)
                    replace hT1 := hT1.gr hg205 (fun _ e => by cases e; omega)
                    replace hE := hE.gr hg205 (fun _ e => by cases e; omega)
                    replace hb_g3 := hN205
                    refine q_nil (k_block (k_block (k_then (wc_regionL ?_))))
                    refine vm rfl rfl ?_
                    refine wl_val (ov_add rfl rfl (wi64 (by omega) (by omega))) rfl rfl rfl ?_
                    refine va rfl rfl ?_
                    refine q_nil ?_
                    refine k_loop ((i + 1, { s with pre := c.pre })) (by show (needs c.op).length - (i + 1) < (needs c.op).length - i; omega) (⟨rfl, rfl, rfl, rfl, rfl, trivial⟩) (⟨by show i + 1 ≤ _; omega, by show onlyC c = ((needs c.op).drop (i + 1)).foldl (ostep c) { s with pre := c.pre }; rw [hfo, drop_getD (by omega), List.foldl_cons, hst], hb_g1, hb_g2, ⟨K1, k1, V1, v1, T1, t1, hb_g3, hK1, hV1, hT1⟩, hK, hV, hT, hE⟩)
                  · have nb112 : ¬ ((needs c.op).getD i 0) = 112 := fun e => hc9 (show (↑((needs c.op).getD i 0).toNat : Int) = 112 by rw [e]; rfl)
                    refine wc_seq (wc_regionL ?_)
                    refine ve rfl rfl rfl ?_
                    refine va rfl rfl ?_
                    refine q_nil (k_then ?_)
                    refine wc_cond_d rfl (fun hc10 => ?_) (fun hc10 => ?_)
                    · have eb : ((needs c.op).getD i 0) = 99 := toNat_inj hc10
                      have hst : ostep c s ((needs c.op).getD i 0) = { s with child := c.child } := by rw [eb]; rfl
                      refine wc_regionL ?_
                      refine wl_val (ov_field0 (off := 9) fo36_9 rfl) rfl rfl rfl ?_
                      refine wl_val (ov_loadAt oc9 rfl hb_g1 rfl) rfl rfl rfl ?_
                      refine wl_val (ov_field0 (off := 9) fo36_9 rfl) rfl rfl rfl ?_
                      refine wl_step0 (or_storeAt (cs' := [(.int .i64 s.op), (.string (strB s.key)), (.slice K1 s.keys.length k1), (.slice V1 s.value.length v1), (.slice T1 s.tags.length t1), (.int .u64 (↑s.life : Int)), (.int .u64 (↑s.ver : Int)), (.string (strB s.tag)), (.string (strB s.pre)), (.string (strB c.child))]) sz9 rfl rfl rfl hb_g3 rfl rfl) rfl rfl ?_
                      rintro _ w205 ⟨hN205, hg205⟩
                      have hz_hg205 := hg205.size
                      replace hK := hK.gr hg205 (fun _ e => by cases e; omega)
                      replace hV := hV.gr hg205 (fun _ e => by cases e; omega)
                      replace hT := hT.gr hg205 (fun _ e => by cases e; omega)
                      replace hb_g1 := hb_g1.gr hg205 (by intro e; cases e; omega)
                      replace hb_g2 := hb_g2.gr hg205 (by intro e; cases e; omega)
                      replace hK1 := hK1.gr hg205 (fun _ e => by cases e; omega)
                      replace hV1 := hV1.gr hg205 (fun _ e => by cases e; omega)
                      replace hT1 := hT1.gr hg205 (fun _ e => by cases e; omega)
                      replace hE := hE.gr hg205 (fun _ e => by cases e; omega)
                      replace hb_g3 := hN205
                      refine q_nil (k_block (k_block (k_then (wc_regionL ?_))))
                      refine vm rfl rfl ?_
                      refine wl_val (ov_add rfl rfl (wi64 (by omega) (by omega))) rfl rfl rfl ?_
                      refine va rfl rfl ?_
                      refine q_nil ?_
                      refine k_loop ((i + 1, { s with child := c.child })) (by show (needs c.op).length - (i + 1) < (needs c.op).length - i; omega) (⟨rfl, rfl, rfl, rfl, rfl, trivial⟩) (⟨by show i + 1 ≤ _; omega, by show onlyC c = ((needs c.op).drop (i + 1)).foldl (ostep c) { s with child := c.child }; rw [hfo, drop_getD (by omega), List.foldl_cons, hst], hb_g1, hb_g2, ⟨K1, k1, V1, v1, T1, t1, hb_g3, hK1, hV1, hT1⟩, hK, hV, hT, hE⟩)
                    · have nb99 : ¬ ((needs c.op).getD i 0) = 99 := fun e => hc10 (show (↑((needs c.op).getD i 0).toNat : Int) = 99 by rw [e]; rfl)
                      have hst : ostep c s ((needs c.op).getD i 0) = s := by unfold ostep; rw [if_neg nb107, if_neg nb118, if_neg nb116, if_neg nb108, if_neg nb110, if_neg nb109, if_neg nb103, if_neg nb112, if_neg nb99]
                      refine q_skip (k_block (k_block (k_then (wc_regionL ?_))))
                      refine vm rfl rfl ?_
                      refine wl_val (ov_add rfl rfl (wi64 (by omega) (by omega))) rfl rfl rfl ?_
                      refine va rfl rfl ?_
                      refine q_nil ?_
                      refine k_loop ((i + 1, s)) (by show (needs c.op).length - (i + 1) < (needs c.op).length - i; omega) (⟨rfl, rfl, rfl, rfl, rfl, trivial⟩) (⟨by show i + 1 ≤ _; omega, by show onlyC c = ((needs c.op).drop (i + 1)).foldl (ostep c) s; rw [hfo, drop_getD (by omega), List.foldl_cons, hst], hb_g1, hb_g2, ⟨K1, k1, V1, v1, T1, t1, hb_g3, hK1, hV1, hT1⟩, hK, hV, hT, hE⟩)
  · have hso : onlyC c = s := by rw [hfo, List.drop_of_length_le (by omega)]; rfl
    refine q_exit (k_thenX (k_thenX (k_blockE (k_then (wc_seq (wc_regionL ?_))))))
    refine wl_val (ov_loadBlk (cs := [(.int .i64 s.op), (.string (strB s.key)), (.slice K1 s.keys.length k1), (.slice V1 s.value.length v1), (.slice T1 s.tags.length t1), (.int .u64 (↑s.life : Int)), (.int .u64 (↑s.ver : Int)), (.string (strB s.tag)), (.string (strB s.pre)), (.string (strB s.child))]) ag36_10 rfl hb_g3) rfl rfl rfl ?_
    refine wl_step0 (or_storeBlk (vs := [(.int .i64 s.op), (.string (strB s.key)), (.slice K1 s.keys.length k1), (.slice V1 s.value.length v1), (.slice T1 s.tags.length t1), (.int .u64 (↑s.life : Int)), (.int .u64 (↑s.ver : Int)), (.string (strB s.tag)), (.string (strB s.pre)), (.string (strB s.child))]) sz36 rfl rfl (by simp [Value.oneCell']) hb_g2 rfl) rfl rfl ?_
    rintro _ w205 ⟨hN205, hg205⟩
    have hz_hg205 := hg205.size
    replace hK := hK.gr hg205 (fun _ e => by cases e; omega)
    replace hV := hV.gr hg205 (fun _ e => by cases e; omega)
    replace hT := hT.gr hg205 (fun _ e => by cases e; omega)
    replace hb_g1 := hb_g1.gr hg205 (by intro e; cases e; omega)
    replace hb_g3 := hb_g3.gr hg205 (by intro e; cases e; omega)
    replace hK1 := hK1.gr hg205 (fun _ e => by cases e; omega)
    replace hV1 := hV1.gr hg205 (fun _ e => by cases e; omega)
    replace hT1 := hT1.gr hg205 (fun _ e => by cases e; omega)
    replace hE := hE.gr hg205 (fun _ e => by cases e; omega)
    replace hb_g2 := hN205
    refine q_nil (k_then (q_ret ?_))
    refine e_retL (rs := [.cell 2 36]) (vs := [.agg #[(.int .i64 s.op), (.string (strB s.key)), (.slice K1 s.keys.length k1), (.slice V1 s.value.length v1), (.slice T1 s.tags.length t1), (.int .u64 (↑s.life : Int)), (.int .u64 (↑s.ver : Int)), (.string (strB s.tag)), (.string (strB s.pre)), (.string (strB s.child))]]) rfl ⟨⟨_, _, [(.int .i64 s.op), (.string (strB s.key)), (.slice K1 s.keys.length k1), (.slice V1 s.value.length v1), (.slice T1 s.tags.length t1), (.int .u64 (↑s.life : Int)), (.int .u64 (↑s.ver : Int)), (.string (strB s.tag)), (.string (strB s.pre)), (.string (strB s.child))], rfl, ag36_10, hb_g2, rfl⟩, trivial⟩ ?_
    refine ⟨K1, k1, V1, v1, T1, t1, ?_, ?_, ?_, ?_, hE⟩
    · rw [hso]; rfl
    · rw [hso]; exact hK1
    · rw [hso]; exact hV1
    · rw [hso]; exact hT1

theorem allowed_any (w : World) (c : Cmd) (lo hi : Nat) (K : Option Addr) (ck : Nat) (V : Option Addr) (cv : Nat) (T : Option Addr) (ct : Nat) (hK : RdS w lo hi K ck c.keys) (hV : RdB w lo hi V cv c.value) (hT : RdS w lo hi T ct c.tags) (p : UInt8) :
    Fn Tryd.prog 30 #[(.agg #[(.int .i64 c.op), (.string (strB c.key)), (.slice K c.keys.length ck), (.slice V c.value.length cv), (.slice T c.tags.length ct), (.int .u64 (↑c.life : Int)), (.int .u64 (↑c.ver : Int)), (.string (strB c.tag)), (.string (strB c.pre)), (.string (strB c.child))]), (.int .u8 (↑p.toNat : Int))] w (fun v w' => v = .bool (alC c p) ∧ Ext w w')  := by
  replace hK := hK.top
  replace hV := hV.top
  replace hT := hT.top
  have hE := ext_refl w
  refine fn_enter (args := [(.agg #[(.int .i64 c.op), (.string (strB c.key)), (.slice K c.keys.length ck), (.slice V c.value.length cv), (.slice T c.tags.length ct), (.int .u64 (↑c.life : Int)), (.int .u64 (↑c.ver : Int)), (.string (strB c.tag)), (.string (strB c.pre)), (.string (strB c.child))]), (.int .u8 (↑p.toNat : Int))]) Tryd.func30 rfl rfl rfl ?_
  show WC _ _ _ _ [(0, (.agg #[(.int .i64 c.op), (.string (strB c.key)), (.slice K c.keys.length ck), (.slice V c.value.length cv), (.slice T c.tags.length ct), (.int .u64 (↑c.life : Int)), (.int .u64 (↑c.ver : Int)), (.string (strB c.tag)), (.string (strB c.pre)), (.string (strB c.child))])), (1, (.int .u8 (↑p.toNat : Int)))] _
  refine wc_seq (wc_regionL ?_)
  refine wl_step (or_box (cs := [(.int .i64 c.op), (.string (strB c.key)), (.slice K c.keys.length ck), (.slice V c.value.length cv), (.slice T c.tags.length ct), (.int .u64 (↑c.life : Int)), (.int .u64 (↑c.ver : Int)), (.string (strB c.tag)), (.string (strB c.pre)), (.string (strB c.child))]) rfl rfl) rfl rfl rfl ?_
  rintro v w1 ⟨g2, rfl, hb_g2, he2, hl2, hu2⟩
  replace hK := hK.ext he2
  replace hV := hV.ext he2
  replace hT := hT.ext he2
  replace hE := hE.tr he2
  have hz_he2 := he2.size
  refine va rfl rfl ?_
  refine q_nil (k_then (wc_seq (wc_seq (wc_regionL ?_))))
  refine vm rfl rfl ?_
  refine q_nil (k_then (wc_block (wc_seq (wc_regionL ?_))))
  refine ve rfl rfl rfl ?_
  refine va rfl rfl ?_
  refine q_nil (k_then ?_)
  refine wc_cond_d rfl (fun hc1 => ?_) (fun hc1 => ?_)
  · have ea : alC c p = (kv c.key) := by rw [show p = 107 from toNat_inj hc1]; rfl
    refine wc_seq (wc_regionL ?_)
    refine wl_val (ov_field0 (off := 1) fo36_1 rfl) rfl rfl rfl ?_
    refine wl_val (ov_loadAt oc9 rfl hb_g2 rfl) rfl rfl rfl ?_
    refine wl_val (or_call0 cl39 rfl rfl (rkv_any _ c.key)) rfl rfl rfl ?_
    refine va rfl rfl ?_
    refine q_nil (k_then (q_ret (k_blockR (k_thenR ?_))))
    refine e_ret rfl rfl ?_
    refine ⟨?_, hE⟩
    rw [ea]
    all_goals first
      | rfl
      | (rw [hna]; rfl)
      | (rw [hta, Bool.true_and]; congr 1; rw [decide_eq_decide]; omega)
      | (rw [hta, Bool.true_and, decide_eq_false (by omega)])
      | (unfold vv; congr 1; rw [decide_eq_decide]; omega)
      | (congr 1; rw [decide_eq_decide]; omega)
  · have nb107 : ¬ p = 107 := fun e => hc1 (by rw [e]; rfl)
    refine wc_seq (wc_regionL ?_)
    refine ve rfl rfl rfl ?_
    refine va rfl rfl ?_
    refine q_nil (k_then ?_)
    refine wc_cond_d rfl (fun hc2 => ?_) (fun hc2 => ?_)
    · have ea : alC c p = (vv c.value) := by rw [show p = 118 from toNat_inj hc2]; rfl
      refine wc_seq (wc_regionL ?_)
      refine wl_val (ov_field0 (off := 3) fo36_3 rfl) rfl rfl rfl ?_
      refine wl_val (ov_loadAt oc32 rfl hb_g2 rfl) rfl rfl rfl ?_
      refine wl_val (ov_len Tryd.underlying32 rfl) rfl rfl rfl ?_
      refine wl_val (ov_leq rfl rfl) rfl rfl rfl ?_
      refine va rfl rfl ?_
      refine q_nil (k_then (q_ret (k_blockR (k_thenR ?_))))
      refine e_ret rfl rfl ?_
      refine ⟨?_, hE⟩
      rw [ea]
      all_goals first
        | rfl
        | (rw [hna]; rfl)
        | (rw [hta, Bool.true_and]; congr 1; rw [decide_eq_decide]; omega)
        | (rw [hta, Bool.true_and, decide_eq_false (by omega)])
        | (unfold vv; congr 1; rw [decide_eq_decide]; omega)
        | (congr 1; rw [decide_eq_decide]; omega)
    · have nb118 : ¬ p = 118 := fun e => hc2 (by rw [e]; rfl)
      refine wc_seq (wc_regionL ?_)
      refine ve rfl rfl rfl ?_
      refine va rfl rfl ?_
      refine q_nil (k_then ?_)
      refine wc_cond_d rfl (fun hc3 => ?_) (fun hc3 => ?_)
      · have ea : alC c p = (c.tags.all tv && decide (c.tags.length ≤ 16)) := by rw [show p = 116 from toNat_inj hc3]; rfl
        refine wc_seq (wc_seq (wc_regionL ?_))
        refine va rfl rfl ?_
        refine q_nil (k_then (wc_block ?_))
        refine wc_loop (σ := Nat) (fun i => c.tags.length - i) (fun i => [(2, .pointer (some ⟨g2, 0, none⟩)), (5, .int .i64 (i : Int))]) (fun i w' => i ≤ c.tags.length ∧ (c.tags.take i).all tv = true ∧ Blk w' g2 36 (cmdc c K ck V cv T ct) ∧ RdS w' lo w.heap.size K ck c.keys ∧ RdB w' lo w.heap.size V cv c.value ∧ RdS w' lo w.heap.size T ct c.tags ∧ Ext w w') (0) (⟨Nat.zero_le _, rfl, hb_g2, hK, hV, hT, hE⟩) (⟨rfl, rfl, trivial⟩) ?_
        rintro i wq ⟨hi0, hta, hb_g2, hK, hV, hT, hE⟩
        show WC _ _ _ _ [(2, (.pointer (some ⟨g2, 0, none⟩))), (5, (.int .i64 (↑i : Int)))] _
        replace hb_g2 : Blk wq g2 36 [(.int .i64 c.op), (.string (strB c.key)), (.slice K c.keys.length ck), (.slice V c.value.length cv), (.slice T c.tags.length ct), (.int .u64 (↑c.life : Int)), (.int .u64 (↑c.ver : Int)), (.string (strB c.tag)), (.string (strB c.pre)), (.string (strB c.child))] := hb_g2
        have hcl := hT.1
        have hcx := hT.2.1
        simp only [maxLen] at hcx
        refine wc_seq (wc_seq (wc_regionL ?_))
        refine vm rfl rfl ?_
        refine wl_val (ov_field0 (off := 4) fo36_4 rfl) rfl rfl rfl ?_
        refine wl_val (ov_loadAt oc27 rfl hb_g2 rfl) rfl rfl rfl ?_
        refine wl_val (ov_len Tryd.underlying27 rfl) rfl rfl rfl ?_
        refine wl_val (ov_lss rfl rfl) rfl rfl rfl ?_
        refine q_nil (k_then ?_)
        refine wc_cond_d rfl (fun hc4 => ?_) (fun hc4 => ?_)
        · obtain ⟨s, hk⟩ : ∃ s, c.tags[i]? = some s := ⟨_, List.getElem?_eq_getElem (by omega)⟩
          refine q_skip (k_then (wc_seq (wc_block (wc_seq (wc_regionL ?_)))))
          refine wl_val (ov_field0 (off := 4) fo36_4 rfl) rfl rfl rfl ?_
          refine wl_val (ov_loadAt oc27 rfl hb_g2 rfl) rfl rfl rfl ?_
          refine vm rfl rfl ?_
          refine wl_step (or_rindex (m := (i)) sl27 rfl rfl hT (fun _ _ => rfl) hk) rfl rfl rfl ?_
          rintro v _ ⟨rfl, p31, rfl, hp31, hpl31, hph31⟩
          refine wl_val (ov_load oc9 rfl (cell_zero hp31 rfl)) rfl rfl rfl ?_
          refine wl_val (or_call0 cl40 rfl rfl (rtv_any _ s)) rfl rfl rfl ?_
          refine wl_val (ov_not rfl) rfl rfl rfl ?_
          refine q_nil (k_then ?_)
          refine wc_cond rfl (fun hc5 => ?_) (fun hc5 => ?_)
          · have hna : c.tags.all tv = false := by rw [List.all_eq_false]; exact ⟨s, List.mem_of_getElem? hk, by simpa using hc5⟩
            refine wc_seq (wc_regionL ?_)
            refine va rfl rfl ?_
            refine q_nil (k_then (q_ret (k_blockR (k_thenR (k_thenR (k_blockR (k_thenR (k_blockR (k_thenR ?_)))))))))
            refine e_ret rfl rfl ?_
            refine ⟨?_, hE⟩
            rw [ea]
            all_goals first
              | rfl
              | (rw [hna]; rfl)
              | (rw [hta, Bool.true_and]; congr 1; rw [decide_eq_decide]; omega)
              | (rw [hta, Bool.true_and, decide_eq_false (by omega)])
              | (unfold vv; congr 1; rw [decide_eq_decide]; omega)
              | (congr 1; rw [decide_eq_decide]; omega)
          · refine q_skip (k_block (k_then (wc_regionL ?_)))
            refine vm rfl rfl ?_
            refine wl_val (ov_add rfl rfl (wi64 (by omega) (by omega))) rfl rfl rfl ?_
            refine va rfl rfl ?_
            refine q_nil ?_
            refine k_loop (i + 1) (by show c.tags.length - (i + 1) < c.tags.length - i; omega) (⟨rfl, rfl, trivial⟩) (⟨by omega, by rw [take_all1 tv hk, hta, Bool.true_and]; simpa using hc5, hb_g2, hK, hV, hT, hE⟩)
        · rw [List.take_of_length_le (by omega)] at hta
          refine q_exit (k_thenX (k_thenX (k_blockE (k_then (wc_seq (wc_regionL ?_))))))
          refine wl_val (ov_field0 (off := 4) fo36_4 rfl) rfl rfl rfl ?_
          refine wl_val (ov_loadAt oc27 rfl hb_g2 rfl) rfl rfl rfl ?_
          refine wl_val (ov_len Tryd.underlying27 rfl) rfl rfl rfl ?_
          refine wl_val (ov_leq rfl rfl) rfl rfl rfl ?_
          refine va rfl rfl ?_
          refine q_nil (k_then (q_ret (k_blockR (k_thenR ?_))))
          refine e_ret rfl rfl ?_
          refine ⟨?_, hE⟩
          rw [ea]
          all_goals first
            | rfl
            | (rw [hna]; rfl)
            | (rw [hta, Bool.true_and]; congr 1; rw [decide_eq_decide]; omega)
            | (rw [hta, Bool.true_and, decide_eq_false (by omega)])
            | (unfold vv; congr 1; rw [decide_eq_decide]; omega)
            | (congr 1; rw [decide_eq_decide]; omega)
      · have nb116 : ¬ p = 116 := fun e => hc3 (by rw [e]; rfl)
        refine wc_seq (wc_regionL ?_)
        refine ve rfl rfl rfl ?_
        refine va rfl rfl ?_
        refine q_nil (k_then ?_)
        refine wc_cond_d rfl (fun hc6 => ?_) (fun hc6 => ?_)
        · have ea : alC c p = (decide (c.life ≠ 0)) := by rw [show p = 108 from toNat_inj hc6]; rfl
          refine wc_seq (wc_regionL ?_)
          refine wl_val (ov_field0 (off := 5) fo36_5 rfl) rfl rfl rfl ?_
          refine wl_val (ov_loadAt oc34 rfl hb_g2 rfl) rfl rfl rfl ?_
          refine wl_val (ov_neq rfl rfl) rfl rfl rfl ?_
          refine va rfl rfl ?_
          refine q_nil (k_then (q_ret (k_blockR (k_thenR ?_))))
          refine e_ret rfl rfl ?_
          refine ⟨?_, hE⟩
          rw [ea]
          all_goals first
            | rfl
            | (rw [hna]; rfl)
            | (rw [hta, Bool.true_and]; congr 1; rw [decide_eq_decide]; omega)
            | (rw [hta, Bool.true_and, decide_eq_false (by omega)])
            | (unfold vv; congr 1; rw [decide_eq_decide]; omega)
            | (congr 1; rw [decide_eq_decide]; omega)
        · have nb108 : ¬ p = 108 := fun e => hc6 (by rw [e]; rfl)
          refine wc_seq (wc_regionL ?_)
          refine ve rfl rfl rfl ?_
          refine va rfl rfl ?_
          refine q_nil (k_then ?_)
          refine wc_cond_d rfl (fun hc7 => ?_) (fun hc7 => ?_)
          · have ea : alC c p = (c.keys.all kv && decide (1 ≤ c.keys.length ∧ c.keys.length ≤ 16)) := by rw [show p = 109 from toNat_inj hc7]; rfl
            refine wc_seq (wc_seq (wc_regionL ?_))
            refine va rfl rfl ?_
            refine q_nil (k_then (wc_block ?_))
            refine wc_loop (σ := Nat) (fun i => c.keys.length - i) (fun i => [(2, .pointer (some ⟨g2, 0, none⟩)), (6, .int .i64 (i : Int))]) (fun i w' => i ≤ c.keys.length ∧ (c.keys.take i).all kv = true ∧ Blk w' g2 36 (cmdc c K ck V cv T ct) ∧ RdS w' lo w.heap.size K ck c.keys ∧ RdB w' lo w.heap.size V cv c.value ∧ RdS w' lo w.heap.size T ct c.tags ∧ Ext w w') (0) (⟨Nat.zero_le _, rfl, hb_g2, hK, hV, hT, hE⟩) (⟨rfl, rfl, trivial⟩) ?_
            rintro i wq ⟨hi0, hta, hb_g2, hK, hV, hT, hE⟩
            show WC _ _ _ _ [(2, (.pointer (some ⟨g2, 0, none⟩))), (6, (.int .i64 (↑i : Int)))] _
            replace hb_g2 : Blk wq g2 36 [(.int .i64 c.op), (.string (strB c.key)), (.slice K c.keys.length ck), (.slice V c.value.length cv), (.slice T c.tags.length ct), (.int .u64 (↑c.life : Int)), (.int .u64 (↑c.ver : Int)), (.string (strB c.tag)), (.string (strB c.pre)), (.string (strB c.child))] := hb_g2
            have hcl := hK.1
            have hcx := hK.2.1
            simp only [maxLen] at hcx
            refine wc_seq (wc_seq (wc_regionL ?_))
            refine vm rfl rfl ?_
            refine wl_val (ov_field0 (off := 2) fo36_2 rfl) rfl rfl rfl ?_
            refine wl_val (ov_loadAt oc27 rfl hb_g2 rfl) rfl rfl rfl ?_
            refine wl_val (ov_len Tryd.underlying27 rfl) rfl rfl rfl ?_
            refine wl_val (ov_lss rfl rfl) rfl rfl rfl ?_
            refine q_nil (k_then ?_)
            refine wc_cond_d rfl (fun hc8 => ?_) (fun hc8 => ?_)
            · obtain ⟨s, hk⟩ : ∃ s, c.keys[i]? = some s := ⟨_, List.getElem?_eq_getElem (by omega)⟩
              refine q_skip (k_then (wc_seq (wc_block (wc_seq (wc_regionL ?_)))))
              refine wl_val (ov_field0 (off := 2) fo36_2 rfl) rfl rfl rfl ?_
              refine wl_val (ov_loadAt oc27 rfl hb_g2 rfl) rfl rfl rfl ?_
              refine vm rfl rfl ?_
              refine wl_step (or_rindex (m := (i)) sl27 rfl rfl hK (fun _ _ => rfl) hk) rfl rfl rfl ?_
              rintro v _ ⟨rfl, p56, rfl, hp56, hpl56, hph56⟩
              refine wl_val (ov_load oc9 rfl (cell_zero hp56 rfl)) rfl rfl rfl ?_
              refine wl_val (or_call0 cl39 rfl rfl (rkv_any _ s)) rfl rfl rfl ?_
              refine wl_val (ov_not rfl) rfl rfl rfl ?_
              refine q_nil (k_then ?_)
              refine wc_cond rfl (fun hc9 => ?_) (fun hc9 => ?_)
              · have hna : c.keys.all kv = false := by rw [List.all_eq_false]; exact ⟨s, List.mem_of_getElem? hk, by simpa using hc9⟩
                refine wc_seq (wc_regionL ?_)
                refine va rfl rfl ?_
                refine q_nil (k_then (q_ret (k_blockR (k_thenR (k_thenR (k_blockR (k_thenR (k_blockR (k_thenR ?_)))))))))
                refine e_ret rfl rfl ?_
                refine ⟨?_, hE⟩
                rw [ea]
                all_goals first
                  | rfl
                  | (rw [hna]; rfl)
                  | (rw [hta, Bool.true_and]; congr 1; rw [decide_eq_decide]; omega)
                  | (rw [hta, Bool.true_and, decide_eq_false (by omega)])
                  | (unfold vv; congr 1; rw [decide_eq_decide]; omega)
                  | (congr 1; rw [decide_eq_decide]; omega)
              · refine q_skip (k_block (k_then (wc_regionL ?_)))
                refine vm rfl rfl ?_
                refine wl_val (ov_add rfl rfl (wi64 (by omega) (by omega))) rfl rfl rfl ?_
                refine va rfl rfl ?_
                refine q_nil ?_
                refine k_loop (i + 1) (by show c.keys.length - (i + 1) < c.keys.length - i; omega) (⟨rfl, rfl, trivial⟩) (⟨by omega, by rw [take_all1 kv hk, hta, Bool.true_and]; simpa using hc9, hb_g2, hK, hV, hT, hE⟩)
            · rw [List.take_of_length_le (by omega)] at hta
              refine q_exit (k_thenX (k_thenX (k_blockE (k_then (wc_seq (wc_regionL ?_))))))
              refine wl_val (ov_field0 (off := 2) fo36_2 rfl) rfl rfl rfl ?_
              refine wl_val (ov_loadAt oc27 rfl hb_g2 rfl) rfl rfl rfl ?_
              refine wl_val (ov_len Tryd.underlying27 rfl) rfl rfl rfl ?_
              refine wl_val (ov_geq rfl rfl) rfl rfl rfl ?_
              refine wl_case_d (d := 63) rfl (fun h63 => ?_) (fun h63 => ?_)
              · refine vm rfl rfl ?_
                refine wl_gval (ov_field0 (off := 2) fo36_2 rfl) rfl rfl rfl rfl rfl ?_
                refine wl_gval (ov_loadAt oc27 rfl hb_g2 rfl) rfl rfl rfl rfl rfl ?_
                refine wl_gval (ov_len Tryd.underlying27 rfl) rfl rfl rfl rfl rfl ?_
                refine wl_gval (ov_leq rfl rfl) rfl rfl rfl rfl rfl ?_
                refine wl_val (ov_pick_t rfl rfl) rfl rfl rfl ?_
                refine va rfl rfl ?_
                refine q_nil (k_then (q_ret (k_blockR (k_thenR ?_))))
                refine e_ret rfl rfl ?_
                refine ⟨?_, hE⟩
                rw [ea]
                all_goals first
                  | rfl
                  | (rw [hna]; rfl)
                  | (rw [hta, Bool.true_and]; congr 1; rw [decide_eq_decide]; omega)
                  | (rw [hta, Bool.true_and, decide_eq_false (by omega)])
                  | (unfold vv; congr 1; rw [decide_eq_decide]; omega)
                  | (congr 1; rw [decide_eq_decide]; omega)
              · refine vm rfl rfl ?_
                iterate 4 refine wl_gskip rfl rfl rfl rfl rfl rfl ?_
                refine wl_val (ov_pick_f rfl rfl) rfl rfl rfl ?_
                refine va rfl rfl ?_
                refine q_nil (k_then (q_ret (k_blockR (k_thenR ?_))))
                refine e_ret rfl rfl ?_
                refine ⟨?_, hE⟩
                rw [ea]
                all_goals first
                  | rfl
                  | (rw [hna]; rfl)
                  | (rw [hta, Bool.true_and]; congr 1; rw [decide_eq_decide]; omega)
                  | (rw [hta, Bool.true_and, decide_eq_false (by omega)])
                  | (unfold vv; congr 1; rw [decide_eq_decide]; omega)
                  | (congr 1; rw [decide_eq_decide]; omega)
          · have nb109 : ¬ p = 109 := fun e => hc7 (by rw [e]; rfl)
            refine wc_seq (wc_regionL ?_)
            refine ve rfl rfl rfl ?_
            refine va rfl rfl ?_
            refine q_nil (k_then ?_)
            refine wc_cond_d rfl (fun hc10 => ?_) (fun hc10 => ?_)
            · have ea : alC c p = (tv c.tag) := by rw [show p = 103 from toNat_inj hc10]; rfl
              refine wc_seq (wc_regionL ?_)
              refine wl_val (ov_field0 (off := 7) fo36_7 rfl) rfl rfl rfl ?_
              refine wl_val (ov_loadAt oc9 rfl hb_g2 rfl) rfl rfl rfl ?_
              refine wl_val (or_call0 cl40 rfl rfl (rtv_any _ c.tag)) rfl rfl rfl ?_
              refine va rfl rfl ?_
              refine q_nil (k_then (q_ret (k_blockR (k_thenR ?_))))
              refine e_ret rfl rfl ?_
              refine ⟨?_, hE⟩
              rw [ea]
              all_goals first
                | rfl
                | (rw [hna]; rfl)
                | (rw [hta, Bool.true_and]; congr 1; rw [decide_eq_decide]; omega)
                | (rw [hta, Bool.true_and, decide_eq_false (by omega)])
                | (unfold vv; congr 1; rw [decide_eq_decide]; omega)
                | (congr 1; rw [decide_eq_decide]; omega)
            · have nb103 : ¬ p = 103 := fun e => hc10 (by rw [e]; rfl)
              refine wc_seq (wc_regionL ?_)
              refine ve rfl rfl rfl ?_
              refine va rfl rfl ?_
              refine q_nil (k_then ?_)
              refine wc_cond_d rfl (fun hc11 => ?_) (fun hc11 => ?_)
              · have ea : alC c p = (pv c.pre) := by rw [show p = 112 from toNat_inj hc11]; rfl
                refine wc_seq (wc_regionL ?_)
                refine wl_val (ov_field0 (off := 8) fo36_8 rfl) rfl rfl rfl ?_
                refine wl_val (ov_loadAt oc9 rfl hb_g2 rfl) rfl rfl rfl ?_
                refine wl_val (or_call0 cl41 rfl rfl (rpv_any _ c.pre)) rfl rfl rfl ?_
                refine va rfl rfl ?_
                refine q_nil (k_then (q_ret (k_blockR (k_thenR ?_))))
                refine e_ret rfl rfl ?_
                refine ⟨?_, hE⟩
                rw [ea]
                all_goals first
                  | rfl
                  | (rw [hna]; rfl)
                  | (rw [hta, Bool.true_and]; congr 1; rw [decide_eq_decide]; omega)
                  | (rw [hta, Bool.true_and, decide_eq_false (by omega)])
                  | (unfold vv; congr 1; rw [decide_eq_decide]; omega)
                  | (congr 1; rw [decide_eq_decide]; omega)
              · have nb112 : ¬ p = 112 := fun e => hc11 (by rw [e]; rfl)
                refine wc_seq (wc_regionL ?_)
                refine ve rfl rfl rfl ?_
                refine va rfl rfl ?_
                refine q_nil (k_then ?_)
                refine wc_cond_d rfl (fun hc12 => ?_) (fun hc12 => ?_)
                · have ea : alC c p = (kv c.child) := by rw [show p = 99 from toNat_inj hc12]; rfl
                  refine wc_seq (wc_regionL ?_)
                  refine wl_val (ov_field0 (off := 9) fo36_9 rfl) rfl rfl rfl ?_
                  refine wl_val (ov_loadAt oc9 rfl hb_g2 rfl) rfl rfl rfl ?_
                  refine wl_val (or_call0 cl39 rfl rfl (rkv_any _ c.child)) rfl rfl rfl ?_
                  refine va rfl rfl ?_
                  refine q_nil (k_then (q_ret (k_blockR (k_thenR ?_))))
                  refine e_ret rfl rfl ?_
                  refine ⟨?_, hE⟩
                  rw [ea]
                  all_goals first
                    | rfl
                    | (rw [hna]; rfl)
                    | (rw [hta, Bool.true_and]; congr 1; rw [decide_eq_decide]; omega)
                    | (rw [hta, Bool.true_and, decide_eq_false (by omega)])
                    | (unfold vv; congr 1; rw [decide_eq_decide]; omega)
                    | (congr 1; rw [decide_eq_decide]; omega)
                · have nb99 : ¬ p = 99 := fun e => hc12 (by rw [e]; rfl)
                  have ea : alC c p = true := by unfold alC; rw [if_neg nb107, if_neg nb118, if_neg nb116, if_neg nb108, if_neg nb109, if_neg nb103, if_neg nb112, if_neg nb99]
                  refine q_skip (k_block (k_then (wc_seq (wc_regionL ?_))))
                  refine va rfl rfl ?_
                  refine q_nil (k_then (q_ret ?_))
                  refine e_ret rfl rfl ?_
                  refine ⟨?_, hE⟩
                  rw [ea]
                  all_goals first
                    | rfl
                    | (rw [hna]; rfl)
                    | (rw [hta, Bool.true_and]; congr 1; rw [decide_eq_decide]; omega)
                    | (rw [hta, Bool.true_and, decide_eq_false (by omega)])
                    | (unfold vv; congr 1; rw [decide_eq_decide]; omega)
                    | (congr 1; rw [decide_eq_decide]; omega)

end Go.Proofs.YtohnkjjjejnkpaaDoor
