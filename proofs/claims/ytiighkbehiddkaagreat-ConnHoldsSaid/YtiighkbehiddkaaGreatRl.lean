/-
 The reference: what a response needs.
-/
import Derived.Test.YtiighkbehiddkaaGreatRi
namespace Go.Proofs.YtiighkbehiddkaaGreat
open Go.RowKit
set_option linter.unusedVariables false
set_option maxRecDepth 4000
/-- The part that a response needs, as the reference names it. -/
def needsN (op : Int) : Nat := if op = 1 ∨ op = 2 ∨ op = 3 then 119 else if op = 4 then 105 else if op = 5 then 109 else if op = 15 then 110 else 99
theorem nd_a {op : Int} (h : op = 1 ∨ op = 2 ∨ op = 3) : needsN op = 119 := if_pos h
theorem nd_b {op : Int} (h : op = 4) : needsN op = 105 := by subst h; rfl
theorem nd_c {op : Int} (h : op = 5) : needsN op = 109 := by subst h; rfl
theorem nd_d {op : Int} (h : op = 15) : needsN op = 110 := by subst h; rfl
theorem nd_e {op : Int} (h1 : ¬ (op = 1 ∨ op = 2 ∨ op = 3)) (h2 : ¬ op = 4) (h3 : ¬ op = 5) (h4 : ¬ op = 15) : needsN op = 99 := by unfold needsN; rw [if_neg h1, if_neg h2, if_neg h3, if_neg h4]
/-- A response with just the parts that it needs. -/
def onlyR (r : Rsp) : Rsp :=
 if ¬ r.err = 0 then rspO r.op r.err else if needsN r.op = 119 then { rspO r.op r.err with ver := r.ver, count := r.count } else if needsN r.op = 105 ∨ needsN r.op = 109 then { rspO r.op r.err with items := r.items }
 else if needsN r.op = 99 then { rspO r.op r.err with count := r.count } else if needsN r.op = 110 then { rspO r.op r.err with nums := r.nums } else rspO r.op r.err
def okV (x : Itm) : Bool := decide (¬ (x.mark = 0 ∧ ¬ x = zI) ∧ 0 ≤ x.mark ∧ x.mark ≤ 2 ∧ x.value.length ≤ 65536)
structure RV (r : Rsp) : Prop where
 o1 : 0 ≤ r.op
 o2 : r.op ≤ 15
 e1 : 0 ≤ r.err
 e2 : r.err ≤ 100000
 ne : ¬ (r.op = 0 ∧ r.err = 0)
 only : r = onlyR r
 items : r.items.all okV = true
 one : ¬ (r.err = 0 ∧ needsN r.op = 105 ∧ ¬ r.items.length = 1)
 many : ¬ (r.err = 0 ∧ needsN r.op = 109 ∧ (r.items.length < 1 ∨ 16 < r.items.length))
 c1 : 0 ≤ r.count
 c2 : r.count ≤ 1099511627776
 nums : r.nums.length ≤ 64
theorem rv_iff (r : Rsp) : RV r ↔ (0 ≤ r.op ∧ r.op ≤ 15 ∧ 0 ≤ r.err ∧ r.err ≤ 100000 ∧ ¬ (r.op = 0 ∧ r.err = 0) ∧ r = onlyR r ∧ r.items.all okV = true ∧ ¬ (r.err = 0 ∧ needsN r.op = 105 ∧ ¬ r.items.length = 1) ∧ ¬ (r.err = 0 ∧ needsN r.op = 109 ∧ (r.items.length < 1 ∨ 16 < r.items.length)) ∧ 0 ≤ r.count ∧ r.count ≤ 1099511627776 ∧ r.nums.length ≤ 64) :=
 ⟨fun ⟨a, b, c, d, e, f, g, h, i, j, k, l⟩ => ⟨a, b, c, d, e, f, g, h, i, j, k, l⟩, fun ⟨a, b, c, d, e, f, g, h, i, j, k, l⟩ => ⟨a, b, c, d, e, f, g, h, i, j, k, l⟩⟩
instance (r : Rsp) : Decidable (RV r) := decidable_of_iff _ (rv_iff r).symm
theorem needs8_any (w : World) (op : Int) :
  Fn Tryz.prog 78 #[(.int .i64 op)] w (fun v w' => v = .int .u8 (needsN op : Int) ∧ w' = w)  := by
 refine fn_enter (args := [(.int .i64 op)]) Tryz.func78 rfl rfl rfl ?_
 show WC _ _ _ _ [(0, (.int .i64 op))] _
 refine wc_seq (wc_regionL ?_)
 refine va rfl rfl ?_
 refine q_nil (k_then (wc_seq (wc_seq (wc_regionL ?_))))
 refine vm rfl rfl ?_
 refine q_nil (k_then (wc_block (wc_seq (wc_seq (wc_regionL ?_)))))
 refine ve rfl rfl rfl ?_
 refine va rfl rfl ?_
 refine q_nil (k_then ?_)
 refine wc_cond_d rfl (fun hc1 => ?_) (fun hc1 => ?_)
 ·refine q_skip (k_then ?_)
  refine wc_cond_T rfl (decide_eq_true hc1) ?_
  refine wc_seq (wc_regionL ?_)
  refine va rfl rfl ?_
  refine q_nil (k_then (q_ret (k_blockR (k_thenR ?_))))
  refine e_ret rfl rfl ?_
  first | exact ⟨by rw [nd_a (by omega)]; rfl, rfl⟩ | exact ⟨by rw [nd_b (by omega)]; rfl, rfl⟩ | exact ⟨by rw [nd_c (by omega)]; rfl, rfl⟩ | exact ⟨by rw [nd_d (by omega)]; rfl, rfl⟩ | exact ⟨by rw [nd_e (by omega) (by omega) (by omega) (by omega)]; rfl, rfl⟩
 ·refine wc_seq (wc_regionL ?_)
  refine ve rfl rfl rfl ?_
  refine va rfl rfl ?_
  refine q_nil (k_then ?_)
  refine wc_cond_d rfl (fun hc2 => ?_) (fun hc2 => ?_)
  ·refine q_skip (k_then ?_)
   refine wc_cond_T rfl (decide_eq_true hc2) ?_
   refine wc_seq (wc_regionL ?_)
   refine va rfl rfl ?_
   refine q_nil (k_then (q_ret (k_blockR (k_thenR ?_))))
   refine e_ret rfl rfl ?_
   first | exact ⟨by rw [nd_a (by omega)]; rfl, rfl⟩ | exact ⟨by rw [nd_b (by omega)]; rfl, rfl⟩ | exact ⟨by rw [nd_c (by omega)]; rfl, rfl⟩ | exact ⟨by rw [nd_d (by omega)]; rfl, rfl⟩ | exact ⟨by rw [nd_e (by omega) (by omega) (by omega) (by omega)]; rfl, rfl⟩
  ·refine wc_regionL ?_
   refine ve rfl rfl rfl ?_
   refine va rfl rfl ?_
   refine q_nil (k_then ?_)
   refine wc_cond_d rfl (fun hc3 => ?_) (fun hc3 => ?_)
   ·refine wc_seq (wc_regionL ?_)
    refine va rfl rfl ?_
    refine q_nil (k_then (q_ret (k_blockR (k_thenR ?_))))
    refine e_ret rfl rfl ?_
    first | exact ⟨by rw [nd_a (by omega)]; rfl, rfl⟩ | exact ⟨by rw [nd_b (by omega)]; rfl, rfl⟩ | exact ⟨by rw [nd_c (by omega)]; rfl, rfl⟩ | exact ⟨by rw [nd_d (by omega)]; rfl, rfl⟩ | exact ⟨by rw [nd_e (by omega) (by omega) (by omega) (by omega)]; rfl, rfl⟩
   ·refine wc_seq (wc_regionL ?_)
    refine ve rfl rfl rfl ?_
    refine va rfl rfl ?_
    refine q_nil (k_then ?_)
    refine wc_cond_d rfl (fun hc4 => ?_) (fun hc4 => ?_)
    ·refine wc_seq (wc_regionL ?_)
     refine va rfl rfl ?_
     refine q_nil (k_then (q_ret (k_blockR (k_thenR ?_))))
     refine e_ret rfl rfl ?_
     first | exact ⟨by rw [nd_a (by omega)]; rfl, rfl⟩ | exact ⟨by rw [nd_b (by omega)]; rfl, rfl⟩ | exact ⟨by rw [nd_c (by omega)]; rfl, rfl⟩ | exact ⟨by rw [nd_d (by omega)]; rfl, rfl⟩ | exact ⟨by rw [nd_e (by omega) (by omega) (by omega) (by omega)]; rfl, rfl⟩
    ·refine wc_seq (wc_regionL ?_)
     refine ve rfl rfl rfl ?_
     refine va rfl rfl ?_
     refine q_nil (k_then ?_)
     refine wc_cond_d rfl (fun hc5 => ?_) (fun hc5 => ?_)
     ·refine wc_seq (wc_regionL ?_)
      refine va rfl rfl ?_
      refine q_nil (k_then (q_ret (k_blockR (k_thenR ?_))))
      refine e_ret rfl rfl ?_
      first | exact ⟨by rw [nd_a (by omega)]; rfl, rfl⟩ | exact ⟨by rw [nd_b (by omega)]; rfl, rfl⟩ | exact ⟨by rw [nd_c (by omega)]; rfl, rfl⟩ | exact ⟨by rw [nd_d (by omega)]; rfl, rfl⟩ | exact ⟨by rw [nd_e (by omega) (by omega) (by omega) (by omega)]; rfl, rfl⟩
     ·refine wc_seq (wc_regionL ?_)
      refine ve rfl rfl rfl ?_
      refine va rfl rfl ?_
      refine q_nil (k_then ?_)
      refine wc_cond_d rfl (fun hc6 => ?_) (fun hc6 => ?_)
      ·refine wc_seq (wc_regionL ?_)
       refine va rfl rfl ?_
       refine q_nil (k_then (q_ret (k_blockR (k_thenR ?_))))
       refine e_ret rfl rfl ?_
       first | exact ⟨by rw [nd_a (by omega)]; rfl, rfl⟩ | exact ⟨by rw [nd_b (by omega)]; rfl, rfl⟩ | exact ⟨by rw [nd_c (by omega)]; rfl, rfl⟩ | exact ⟨by rw [nd_d (by omega)]; rfl, rfl⟩ | exact ⟨by rw [nd_e (by omega) (by omega) (by omega) (by omega)]; rfl, rfl⟩
      ·refine q_skip (k_block (k_then (wc_seq (wc_regionL ?_))))
       refine va rfl rfl ?_
       refine q_nil (k_then (q_ret ?_))
       refine e_ret rfl rfl ?_
       first | exact ⟨by rw [nd_a (by omega)]; rfl, rfl⟩ | exact ⟨by rw [nd_b (by omega)]; rfl, rfl⟩ | exact ⟨by rw [nd_c (by omega)]; rfl, rfl⟩ | exact ⟨by rw [nd_d (by omega)]; rfl, rfl⟩ | exact ⟨by rw [nd_e (by omega) (by omega) (by omega) (by omega)]; rfl, rfl⟩
end Go.Proofs.YtiighkbehiddkaaGreat