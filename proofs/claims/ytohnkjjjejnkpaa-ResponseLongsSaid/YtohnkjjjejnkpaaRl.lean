/-
  The reference: what a response needs.
-/
import Derived.Test.YtohnkjjjejnkpaaRi
namespace Go.Proofs.Ytohnkjjjejnkpaa
open Go.RowKit
set_option linter.unusedVariables false
set_option maxRecDepth 4000
theorem cl27 : callable Try.prog 27 = true := by kernel_rfl

/-- The part that a response needs, as the reference names it. -/
def needsN (op : Int) : Nat := if op = 1 ∨ op = 2 ∨ op = 3 then 119 else if op = 4 then 105 else if op = 5 then 109 else if op = 15 then 110 else 99
theorem nd_a {op : Int} (h : op = 1 ∨ op = 2 ∨ op = 3) : needsN op = 119 := if_pos h
theorem nd_b {op : Int} (h : op = 4) : needsN op = 105 := by subst h; rfl
theorem nd_c {op : Int} (h : op = 5) : needsN op = 109 := by subst h; rfl
theorem nd_d {op : Int} (h : op = 15) : needsN op = 110 := by subst h; rfl
theorem nd_e {op : Int} (h1 : ¬ (op = 1 ∨ op = 2 ∨ op = 3)) (h2 : ¬ op = 4) (h3 : ¬ op = 5) (h4 : ¬ op = 15) : needsN op = 99 := by unfold needsN; rw [if_neg h1, if_neg h2, if_neg h3, if_neg h4]
/-- A response with just the parts that it needs. -/
def onlyR (r : Rsp) : Rsp :=
  if ¬ r.err = 0 then rspO r.op r.err else if needsN r.op = 119 then { rspO r.op r.err with ver := r.ver, count := r.count } else if needsN r.op = 105 ∨ needsN r.op = 109 then { rspO r.op r.err with items := r.items }
  else if needsN r.op = 99 then { rspO r.op r.err with count := r.count } else if needsN r.op = 110 then { rspO r.op r.err with nums := r.nums } else rspO r.op r.err
def okV (x : Itm) : Bool := decide (¬ (x.mark = 0 ∧ ¬ x = zI) ∧ 0 ≤ x.mark ∧ x.mark ≤ 2 ∧ x.value.length ≤ 65536)
structure RV (r : Rsp) : Prop where
  o1 : 0 ≤ r.op
  o2 : r.op ≤ 15
  e1 : 0 ≤ r.err
  e2 : r.err ≤ 100000
  ne : ¬ (r.op = 0 ∧ r.err = 0)
  only : r = onlyR r
  items : r.items.all okV = true
  one : ¬ (r.err = 0 ∧ needsN r.op = 105 ∧ ¬ r.items.length = 1)
  many : ¬ (r.err = 0 ∧ needsN r.op = 109 ∧ (r.items.length < 1 ∨ 16 < r.items.length))
  c1 : 0 ≤ r.count
  c2 : r.count ≤ 1099511627776
  nums : r.nums.length ≤ 64
theorem rv_iff (r : Rsp) : RV r ↔ (0 ≤ r.op ∧ r.op ≤ 15 ∧ 0 ≤ r.err ∧ r.err ≤ 100000 ∧ ¬ (r.op = 0 ∧ r.err = 0) ∧ r = onlyR r ∧ r.items.all okV = true ∧ ¬ (r.err = 0 ∧ needsN r.op = 105 ∧ ¬ r.items.length = 1) ∧ ¬ (r.err = 0 ∧ needsN r.op = 109 ∧ (r.items.length < 1 ∨ 16 < r.items.length)) ∧ 0 ≤ r.count ∧ r.count ≤ 1099511627776 ∧ r.nums.length ≤ 64) :=
  ⟨fun ⟨a, b, c, d, e, f, g, h, i, j, k, l⟩ => ⟨a, b, c, d, e, f, g, h, i, j, k, l⟩, fun ⟨a, b, c, d, e, f, g, h, i, j, k, l⟩ => ⟨a, b, c, d, e, f, g, h, i, j, k, l⟩⟩
instance (r : Rsp) : Decidable (RV r) := decidable_of_iff _ (rv_iff r).symm
theorem okV_take {xs : List Itm} {k : Nat} {x : Itm} (h : xs[k]? = some x) : (xs.take (k + 1)).all okV = ((xs.take k).all okV && okV x) := by
  rw [List.take_add_one, h, List.all_append]; simp
theorem okV_not {xs : List Itm} {x : Itm} (h : x ∈ xs) (hx : okV x = false) : ¬ xs.all okV = true := fun e => by rw [List.all_eq_true.1 e x h] at hx; cases hx

theorem needs8_any (w : World) (op : Int) :
    Fn Try.prog 27 #[(.int .i64 op)] w (fun v w' => v = .int .u8 (needsN op : Int) ∧ w' = w)  := by
  refine fn_enter (args := [(.int .i64 op)]) Try.func27 rfl rfl rfl ?_
  show WC _ _ _ _ [(0, (.int .i64 op))] _
  refine wc_seq (wc_regionL ?_)
  refine va rfl rfl ?_
  refine q_nil (k_then (wc_seq (wc_seq (wc_regionL ?_))))
  refine vm rfl rfl ?_
  refine q_nil (k_then (wc_block (wc_seq (wc_seq (wc_regionL ?_)))))
  refine ve rfl rfl rfl ?_
  refine va rfl rfl ?_
  refine q_nil (k_then ?_)
  refine wc_cond_d rfl (fun hc1 => ?_) (fun hc1 => ?_)
  · refine q_skip (k_then ?_)
    refine wc_cond_T rfl (decide_eq_true hc1) ?_
    refine wc_seq (wc_regionL ?_)
    refine va rfl rfl ?_
    refine q_nil (k_then (q_ret (k_blockR (k_thenR ?_))))
    refine e_ret rfl rfl ?_
    first | exact ⟨by rw [nd_a (by omega)]; rfl, rfl⟩ | exact ⟨by rw [nd_b (by omega)]; rfl, rfl⟩ | exact ⟨by rw [nd_c (by omega)]; rfl, rfl⟩ | exact ⟨by rw [nd_d (by omega)]; rfl, rfl⟩ | exact ⟨by rw [nd_e (by omega) (by omega) (by omega) (by omega)]; rfl, rfl⟩
  · refine wc_seq (wc_regionL ?_)
    refine ve rfl rfl rfl ?_
    refine va rfl rfl ?_
    refine q_nil (k_then ?_)
    refine wc_cond_d rfl (fun hc2 => ?_) (fun hc2 => ?_)
    · refine q_skip (k_then ?_)
      refine wc_cond_T rfl (decide_eq_true hc2) ?_
      refine wc_seq (wc_regionL ?_)
      refine va rfl rfl ?_
      refine q_nil (k_then (q_ret (k_blockR (k_thenR ?_))))
      refine e_ret rfl rfl ?_
      first | exact ⟨by rw [nd_a (by omega)]; rfl, rfl⟩ | exact ⟨by rw [nd_b (by omega)]; rfl, rfl⟩ | exact ⟨by rw [nd_c (by omega)]; rfl, rfl⟩ | exact ⟨by rw [nd_d (by omega)]; rfl, rfl⟩ | exact ⟨by rw [nd_e (by omega) (by omega) (by omega) (by omega)]; rfl, rfl⟩
    · refine wc_regionL ?_
      refine ve rfl rfl rfl ?_
      refine va rfl rfl ?_
      refine q_nil (k_then ?_)
      refine wc_cond_d rfl (fun hc3 => ?_) (fun hc3 => ?_)
      · refine wc_seq (wc_regionL ?_)
        refine va rfl rfl ?_
        refine q_nil (k_then (q_ret (k_blockR (k_thenR ?_))))
        refine e_ret rfl rfl ?_
        first | exact ⟨by rw [nd_a (by omega)]; rfl, rfl⟩ | exact ⟨by rw [nd_b (by omega)]; rfl, rfl⟩ | exact ⟨by rw [nd_c (by omega)]; rfl, rfl⟩ | exact ⟨by rw [nd_d (by omega)]; rfl, rfl⟩ | exact ⟨by rw [nd_e (by omega) (by omega) (by omega) (by omega)]; rfl, rfl⟩
      · refine wc_seq (wc_regionL ?_)
        refine ve rfl rfl rfl ?_
        refine va rfl rfl ?_
        refine q_nil (k_then ?_)
        refine wc_cond_d rfl (fun hc4 => ?_) (fun hc4 => ?_)
        · refine wc_seq (wc_regionL ?_)
          refine va rfl rfl ?_
          refine q_nil (k_then (q_ret (k_blockR (k_thenR ?_))))
          refine e_ret rfl rfl ?_
          first | exact ⟨by rw [nd_a (by omega)]; rfl, rfl⟩ | exact ⟨by rw [nd_b (by omega)]; rfl, rfl⟩ | exact ⟨by rw [nd_c (by omega)]; rfl, rfl⟩ | exact ⟨by rw [nd_d (by omega)]; rfl, rfl⟩ | exact ⟨by rw [nd_e (by omega) (by omega) (by omega) (by omega)]; rfl, rfl⟩
        · refine wc_seq (wc_regionL ?_)
          refine ve rfl rfl rfl ?_
          refine va rfl rfl ?_
          refine q_nil (k_then ?_)
          refine wc_cond_d rfl (fun hc5 => ?_) (fun hc5 => ?_)
          · refine wc_seq (wc_regionL ?_)
            refine va rfl rfl ?_
            refine q_nil (k_then (q_ret (k_blockR (k_thenR ?_))))
            refine e_ret rfl rfl ?_
            first | exact ⟨by rw [nd_a (by omega)]; rfl, rfl⟩ | exact ⟨by rw [nd_b (by omega)]; rfl, rfl⟩ | exact ⟨by rw [nd_c (by omega)]; rfl, rfl⟩ | exact ⟨by rw [nd_d (by omega)]; rfl, rfl⟩ | exact ⟨by rw [nd_e (by omega) (by omega) (by omega) (by omega)]; rfl, rfl⟩
          · refine wc_seq (wc_regionL ?_)
            refine ve rfl rfl rfl ?_
            refine va rfl rfl ?_
            refine q_nil (k_then ?_)
            refine wc_cond_d rfl (fun hc6 => ?_) (fun hc6 => ?_)
            · refine wc_seq (wc_regionL ?_)
              refine va rfl rfl ?_
              refine q_nil (k_then (q_ret (k_blockR (k_thenR ?_))))
              refine e_ret rfl rfl ?_
              first | exact ⟨by rw [nd_a (by omega)]; rfl, rfl⟩ | exact ⟨by rw [nd_b (by omega)]; rfl, rfl⟩ | exact ⟨by rw [nd_c (by omega)]; rfl, rfl⟩ | exact ⟨by rw [nd_d (by omega)]; rfl, rfl⟩ | exact ⟨by rw [nd_e (by omega) (by omega) (by omega) (by omega)]; rfl, rfl⟩
            · refine q_skip (k_block (k_then (wc_seq (wc_regionL ?_))))
              refine va rfl rfl ?_
              refine q_nil (k_then (q_ret ?_))
              refine e_ret rfl rfl ?_
              first | exact ⟨by rw [nd_a (by omega)]; rfl, rfl⟩ | exact ⟨by rw [nd_b (by omega)]; rfl, rfl⟩ | exact ⟨by rw [nd_c (by omega)]; rfl, rfl⟩ | exact ⟨by rw [nd_d (by omega)]; rfl, rfl⟩ | exact ⟨by rw [nd_e (by omega) (by omega) (by omega) (by omega)]; rfl, rfl⟩

theorem only8_any (w : World) (r : Rsp) (xs : List IT) (hv : vals xs = r.items) (lo hi : Nat) (X : Option Addr) (cx : Nat) (N : Option Addr) (cn : Nat) (hx : RdI w lo hi X cx xs) (hn : RdN w lo hi N cn r.nums) (hhi : hi ≤ w.heap.size) :
    Fn Try.prog 25 #[(.agg #[(.int .i64 r.op), (.int .i64 r.err), (.slice X r.items.length cx), (.int .u64 (↑r.ver : Int)), (.int .i64 r.count), (.slice N r.nums.length cn)])] w (fun v w' => ∃ xs' X' cx' N' cn', v = .agg (rspc (onlyR r) X' cx' N' cn').toArray ∧ vals xs' = (onlyR r).items ∧ RdI w' lo hi X' cx' xs' ∧ RdN w' lo hi N' cn' (onlyR r).nums ∧ Ext w w')  := by
  have hE := ext_refl w
  refine fn_enter (args := [(.agg #[(.int .i64 r.op), (.int .i64 r.err), (.slice X r.items.length cx), (.int .u64 (↑r.ver : Int)), (.int .i64 r.count), (.slice N r.nums.length cn)])]) Try.func25 rfl rfl rfl ?_
  show WC _ _ _ _ [(0, (.agg #[(.int .i64 r.op), (.int .i64 r.err), (.slice X r.items.length cx), (.int .u64 (↑r.ver : Int)), (.int .i64 r.count), (.slice N r.nums.length cn)]))] _
  refine wc_seq (wc_regionL ?_)
  refine wl_step (or_box (cs := [(.int .i64 r.op), (.int .i64 r.err), (.slice X r.items.length cx), (.int .u64 (↑r.ver : Int)), (.int .i64 r.count), (.slice N r.nums.length cn)]) rfl rfl) rfl rfl rfl ?_
  rintro v w1 ⟨g1, rfl, hb_g1, he1, hl1, hu1⟩
  replace hx := RdI.ext hx he1
  replace hn := hn.ext he1
  replace hE := hE.tr he1
  have hz_he1 := he1.size
  refine wl_step (or_alloc (cs := [(.int .i64 0), (.int .i64 0), (.slice none 0 0), (.int .u64 0), (.int .i64 0), (.slice none 0 0)]) ze28 rfl) rfl rfl rfl ?_
  rintro v w2 ⟨g2, rfl, hb_g2, he2, hl2, hu2⟩
  replace hx := RdI.ext hx he2
  replace hn := hn.ext he2
  replace hE := hE.tr he2
  replace hb_g1 := hb_g1.ext he2
  have hz_he2 := he2.size
  refine q_nil (k_then (wc_seq (wc_regionL ?_)))
  refine wl_val (ov_field0 (off := 0) fo28_0 rfl) rfl rfl rfl ?_
  refine wl_val (ov_loadAt oc22 rfl hb_g1 rfl) rfl rfl rfl ?_
  refine wl_val (ov_field0 (off := 1) fo28_1 rfl) rfl rfl rfl ?_
  refine wl_val (ov_loadAt oc23 rfl hb_g1 rfl) rfl rfl rfl ?_
  refine wl_val (ov_build (cs := [(.int .i64 r.op), (.int .i64 r.err), (.slice none 0 0), (.int .u64 0), (.int .i64 0), (.slice none 0 0)]) ze28 pl28 rfl rfl) rfl rfl rfl ?_
  refine wl_step (or_alloc (cs := [(.int .i64 0), (.int .i64 0), (.slice none 0 0), (.int .u64 0), (.int .i64 0), (.slice none 0 0)]) ze28 rfl) rfl rfl rfl ?_
  rintro v w3 ⟨g3, rfl, hb_g3, he3, hl3, hu3⟩
  replace hx := RdI.ext hx he3
  replace hn := hn.ext he3
  replace hE := hE.tr he3
  replace hb_g1 := hb_g1.ext he3
  replace hb_g2 := hb_g2.ext he3
  have hz_he3 := he3.size
  refine wl_step0 (or_storeBlk (vs := [(.int .i64 r.op), (.int .i64 r.err), (.slice none 0 0), (.int .u64 0), (.int .i64 0), (.slice none 0 0)]) sz28 rfl rfl (by simp [Value.oneCell']) hb_g3 rfl) rfl rfl ?_
  rintro _ w4 ⟨hN4, hg4⟩
  have hz_hg4 := hg4.size
  replace hx := RdI.gr hx hg4 (fun _ e => by cases e; omega)
  replace hn := hn.gr hg4 (fun _ e => by cases e; omega)
  replace hE := hE.gr hg4 (fun _ e => by cases e; omega)
  replace hb_g1 := hb_g1.gr hg4 (by intro e; cases e; omega)
  replace hb_g2 := hb_g2.gr hg4 (by intro e; cases e; omega)
  replace hb_g3 := hN4
  refine q_nil (k_then (wc_seq (wc_seq (wc_regionL ?_))))
  refine wl_val (ov_field0 (off := 1) fo28_1 rfl) rfl rfl rfl ?_
  refine wl_val (ov_loadAt oc23 rfl hb_g1 rfl) rfl rfl rfl ?_
  refine wl_val (ov_neq rfl rfl) rfl rfl rfl ?_
  refine q_nil (k_then ?_)
  refine wc_cond_d rfl (fun hc1 => ?_) (fun hc1 => ?_)
  · refine wc_seq (wc_regionL ?_)
    refine wl_val (ov_loadBlk (cs := [(.int .i64 r.op), (.int .i64 r.err), (.slice none 0 0), (.int .u64 0), (.int .i64 0), (.slice none 0 0)]) ag28_6 rfl hb_g3) rfl rfl rfl ?_
    refine wl_step0 (or_storeBlk (vs := [(.int .i64 r.op), (.int .i64 r.err), (.slice none 0 0), (.int .u64 0), (.int .i64 0), (.slice none 0 0)]) sz28 rfl rfl (by simp [Value.oneCell']) hb_g2 rfl) rfl rfl ?_
    rintro _ w5 ⟨hN5, hg5⟩
    have hz_hg5 := hg5.size
    replace hx := RdI.gr hx hg5 (fun _ e => by cases e; omega)
    replace hn := hn.gr hg5 (fun _ e => by cases e; omega)
    replace hE := hE.gr hg5 (fun _ e => by cases e; omega)
    replace hb_g1 := hb_g1.gr hg5 (by intro e; cases e; omega)
    replace hb_g3 := hb_g3.gr hg5 (by intro e; cases e; omega)
    replace hb_g2 := hN5
    refine q_nil (k_then (q_ret (k_thenR ?_)))
    refine e_retL (rs := [.cell 2 28]) (vs := [.agg #[(.int .i64 r.op), (.int .i64 r.err), (.slice none 0 0), (.int .u64 0), (.int .i64 0), (.slice none 0 0)]]) rfl ⟨⟨_, _, [(.int .i64 r.op), (.int .i64 r.err), (.slice none 0 0), (.int .u64 0), (.int .i64 0), (.slice none 0 0)], rfl, ag28_6, hb_g2, rfl⟩, trivial⟩ ?_
    have e1 : onlyR r = rspO r.op r.err := by unfold onlyR; rw [if_pos (by omega)]
    rw [e1]
    exact ⟨[], none, 0, none, 0, rfl, rfl, (RdI.nil _ _ _), (Rd.nil _ _ _ _ _ _ (Nat.zero_le _)), hE⟩
  · refine q_skip (k_then (wc_seq (wc_seq (wc_regionL ?_))))
    refine wl_val (ov_field0 (off := 0) fo28_0 rfl) rfl rfl rfl ?_
    refine wl_val (ov_loadAt oc22 rfl hb_g1 rfl) rfl rfl rfl ?_
    refine wl_val (or_call0 cl27 rfl rfl (needs8_any _ r.op)) rfl rfl rfl ?_
    refine q_nil (k_then (wc_block (wc_seq (wc_regionL ?_))))
    refine ve rfl rfl rfl ?_
    refine va rfl rfl ?_
    refine q_nil (k_then ?_)
    refine wc_cond_d rfl (fun hc2 => ?_) (fun hc2 => ?_)
    · refine wc_seq (wc_regionL ?_)
      refine wl_val (ov_field0 (off := 3) fo28_3 rfl) rfl rfl rfl ?_
      refine wl_val (ov_loadAt oc25 rfl hb_g1 rfl) rfl rfl rfl ?_
      refine wl_val (ov_field0 (off := 3) fo28_3 rfl) rfl rfl rfl ?_
      refine wl_step0 (or_storeAt (cs' := [(.int .i64 r.op), (.int .i64 r.err), (.slice none 0 0), (.int .u64 (↑r.ver : Int)), (.int .i64 0), (.slice none 0 0)]) sz25 rfl rfl rfl hb_g3 rfl rfl) rfl rfl ?_
      rintro _ w205 ⟨hN205, hg205⟩
      have hz_hg205 := hg205.size
      replace hx := RdI.gr hx hg205 (fun _ e => by cases e; omega)
      replace hn := hn.gr hg205 (fun _ e => by cases e; omega)
      replace hE := hE.gr hg205 (fun _ e => by cases e; omega)
      replace hb_g1 := hb_g1.gr hg205 (by intro e; cases e; omega)
      replace hb_g2 := hb_g2.gr hg205 (by intro e; cases e; omega)
      replace hb_g3 := hN205
      refine q_nil (k_then (wc_regionL ?_))
      refine wl_val (ov_field0 (off := 4) fo28_4 rfl) rfl rfl rfl ?_
      refine wl_val (ov_loadAt oc3 rfl hb_g1 rfl) rfl rfl rfl ?_
      refine wl_val (ov_field0 (off := 4) fo28_4 rfl) rfl rfl rfl ?_
      refine wl_step0 (or_storeAt (cs' := [(.int .i64 r.op), (.int .i64 r.err), (.slice none 0 0), (.int .u64 (↑r.ver : Int)), (.int .i64 r.count), (.slice none 0 0)]) sz3 rfl rfl rfl hb_g3 rfl rfl) rfl rfl ?_
      rintro _ w206 ⟨hN206, hg206⟩
      have hz_hg206 := hg206.size
      replace hx := RdI.gr hx hg206 (fun _ e => by cases e; omega)
      replace hn := hn.gr hg206 (fun _ e => by cases e; omega)
      replace hE := hE.gr hg206 (fun _ e => by cases e; omega)
      replace hb_g1 := hb_g1.gr hg206 (by intro e; cases e; omega)
      replace hb_g2 := hb_g2.gr hg206 (by intro e; cases e; omega)
      replace hb_g3 := hN206
      refine q_nil (k_block (k_then (wc_seq (wc_regionL ?_))))
      refine wl_val (ov_loadBlk (cs := [(.int .i64 r.op), (.int .i64 r.err), (.slice none 0 0), (.int .u64 (↑r.ver : Int)), (.int .i64 r.count), (.slice none 0 0)]) ag28_6 rfl hb_g3) rfl rfl rfl ?_
      refine wl_step0 (or_storeBlk (vs := [(.int .i64 r.op), (.int .i64 r.err), (.slice none 0 0), (.int .u64 (↑r.ver : Int)), (.int .i64 r.count), (.slice none 0 0)]) sz28 rfl rfl (by simp [Value.oneCell']) hb_g2 rfl) rfl rfl ?_
      rintro _ w207 ⟨hN207, hg207⟩
      have hz_hg207 := hg207.size
      replace hx := RdI.gr hx hg207 (fun _ e => by cases e; omega)
      replace hn := hn.gr hg207 (fun _ e => by cases e; omega)
      replace hE := hE.gr hg207 (fun _ e => by cases e; omega)
      replace hb_g1 := hb_g1.gr hg207 (by intro e; cases e; omega)
      replace hb_g3 := hb_g3.gr hg207 (by intro e; cases e; omega)
      replace hb_g2 := hN207
      refine q_nil (k_then (q_ret ?_))
      refine e_retL (rs := [.cell 2 28]) (vs := [.agg #[(.int .i64 r.op), (.int .i64 r.err), (.slice none 0 0), (.int .u64 (↑r.ver : Int)), (.int .i64 r.count), (.slice none 0 0)]]) rfl ⟨⟨_, _, [(.int .i64 r.op), (.int .i64 r.err), (.slice none 0 0), (.int .u64 (↑r.ver : Int)), (.int .i64 r.count), (.slice none 0 0)], rfl, ag28_6, hb_g2, rfl⟩, trivial⟩ ?_
      have e1 : onlyR r = { rspO r.op r.err with ver := r.ver, count := r.count } := by unfold onlyR; rw [if_neg (by omega), if_pos (by omega)]
      rw [e1]
      exact ⟨[], none, 0, none, 0, rfl, rfl, (RdI.nil _ _ _), (Rd.nil _ _ _ _ _ _ (Nat.zero_le _)), hE⟩
    · refine wc_seq (wc_seq (wc_regionL ?_))
      refine ve rfl rfl rfl ?_
      refine va rfl rfl ?_
      refine q_nil (k_then ?_)
      refine wc_cond_d rfl (fun hc3 => ?_) (fun hc3 => ?_)
      · refine q_skip (k_then ?_)
        refine wc_cond_T rfl (decide_eq_true hc3) ?_
        refine wc_regionL ?_
        refine wl_val (ov_field0 (off := 2) fo28_2 rfl) rfl rfl rfl ?_
        refine wl_val (ov_loadAt oc24 rfl hb_g1 rfl) rfl rfl rfl ?_
        refine wl_val (ov_field0 (off := 2) fo28_2 rfl) rfl rfl rfl ?_
        refine wl_step0 (or_storeAt (cs' := [(.int .i64 r.op), (.int .i64 r.err), (.slice X r.items.length cx), (.int .u64 0), (.int .i64 0), (.slice none 0 0)]) sz24 rfl rfl rfl hb_g3 rfl rfl) rfl rfl ?_
        rintro _ w205 ⟨hN205, hg205⟩
        have hz_hg205 := hg205.size
        replace hx := RdI.gr hx hg205 (fun _ e => by cases e; omega)
        replace hn := hn.gr hg205 (fun _ e => by cases e; omega)
        replace hE := hE.gr hg205 (fun _ e => by cases e; omega)
        replace hb_g1 := hb_g1.gr hg205 (by intro e; cases e; omega)
        replace hb_g2 := hb_g2.gr hg205 (by intro e; cases e; omega)
        replace hb_g3 := hN205
        refine q_nil (k_block (k_then (wc_seq (wc_regionL ?_))))
        refine wl_val (ov_loadBlk (cs := [(.int .i64 r.op), (.int .i64 r.err), (.slice X r.items.length cx), (.int .u64 0), (.int .i64 0), (.slice none 0 0)]) ag28_6 rfl hb_g3) rfl rfl rfl ?_
        refine wl_step0 (or_storeBlk (vs := [(.int .i64 r.op), (.int .i64 r.err), (.slice X r.items.length cx), (.int .u64 0), (.int .i64 0), (.slice none 0 0)]) sz28 rfl rfl (by simp [Value.oneCell']) hb_g2 rfl) rfl rfl ?_
        rintro _ w206 ⟨hN206, hg206⟩
        have hz_hg206 := hg206.size
        replace hx := RdI.gr hx hg206 (fun _ e => by cases e; omega)
        replace hn := hn.gr hg206 (fun _ e => by cases e; omega)
        replace hE := hE.gr hg206 (fun _ e => by cases e; omega)
        replace hb_g1 := hb_g1.gr hg206 (by intro e; cases e; omega)
        replace hb_g3 := hb_g3.gr hg206 (by intro e; cases e; omega)
        replace hb_g2 := hN206
        refine q_nil (k_then (q_ret ?_))
        refine e_retL (rs := [.cell 2 28]) (vs := [.agg #[(.int .i64 r.op), (.int .i64 r.err), (.slice X r.items.length cx), (.int .u64 0), (.int .i64 0), (.slice none 0 0)]]) rfl ⟨⟨_, _, [(.int .i64 r.op), (.int .i64 r.err), (.slice X r.items.length cx), (.int .u64 0), (.int .i64 0), (.slice none 0 0)], rfl, ag28_6, hb_g2, rfl⟩, trivial⟩ ?_
        have e1 : onlyR r = { rspO r.op r.err with items := r.items } := by unfold onlyR; rw [if_neg (by omega), if_neg (by omega), if_pos (by omega)]
        rw [e1]
        exact ⟨xs, X, cx, none, 0, rfl, hv, hx, (Rd.nil _ _ _ _ _ _ (Nat.zero_le _)), hE⟩
      · refine wc_regionL ?_
        refine ve rfl rfl rfl ?_
        refine va rfl rfl ?_
        refine q_nil (k_then ?_)
        refine wc_cond_d rfl (fun hc4 => ?_) (fun hc4 => ?_)
        · refine wc_regionL ?_
          refine wl_val (ov_field0 (off := 2) fo28_2 rfl) rfl rfl rfl ?_
          refine wl_val (ov_loadAt oc24 rfl hb_g1 rfl) rfl rfl rfl ?_
          refine wl_val (ov_field0 (off := 2) fo28_2 rfl) rfl rfl rfl ?_
          refine wl_step0 (or_storeAt (cs' := [(.int .i64 r.op), (.int .i64 r.err), (.slice X r.items.length cx), (.int .u64 0), (.int .i64 0), (.slice none 0 0)]) sz24 rfl rfl rfl hb_g3 rfl rfl) rfl rfl ?_
          rintro _ w205 ⟨hN205, hg205⟩
          have hz_hg205 := hg205.size
          replace hx := RdI.gr hx hg205 (fun _ e => by cases e; omega)
          replace hn := hn.gr hg205 (fun _ e => by cases e; omega)
          replace hE := hE.gr hg205 (fun _ e => by cases e; omega)
          replace hb_g1 := hb_g1.gr hg205 (by intro e; cases e; omega)
          replace hb_g2 := hb_g2.gr hg205 (by intro e; cases e; omega)
          replace hb_g3 := hN205
          refine q_nil (k_block (k_then (wc_seq (wc_regionL ?_))))
          refine wl_val (ov_loadBlk (cs := [(.int .i64 r.op), (.int .i64 r.err), (.slice X r.items.length cx), (.int .u64 0), (.int .i64 0), (.slice none 0 0)]) ag28_6 rfl hb_g3) rfl rfl rfl ?_
          refine wl_step0 (or_storeBlk (vs := [(.int .i64 r.op), (.int .i64 r.err), (.slice X r.items.length cx), (.int .u64 0), (.int .i64 0), (.slice none 0 0)]) sz28 rfl rfl (by simp [Value.oneCell']) hb_g2 rfl) rfl rfl ?_
          rintro _ w206 ⟨hN206, hg206⟩
          have hz_hg206 := hg206.size
          replace hx := RdI.gr hx hg206 (fun _ e => by cases e; omega)
          replace hn := hn.gr hg206 (fun _ e => by cases e; omega)
          replace hE := hE.gr hg206 (fun _ e => by cases e; omega)
          replace hb_g1 := hb_g1.gr hg206 (by intro e; cases e; omega)
          replace hb_g3 := hb_g3.gr hg206 (by intro e; cases e; omega)
          replace hb_g2 := hN206
          refine q_nil (k_then (q_ret ?_))
          refine e_retL (rs := [.cell 2 28]) (vs := [.agg #[(.int .i64 r.op), (.int .i64 r.err), (.slice X r.items.length cx), (.int .u64 0), (.int .i64 0), (.slice none 0 0)]]) rfl ⟨⟨_, _, [(.int .i64 r.op), (.int .i64 r.err), (.slice X r.items.length cx), (.int .u64 0), (.int .i64 0), (.slice none 0 0)], rfl, ag28_6, hb_g2, rfl⟩, trivial⟩ ?_
          have e1 : onlyR r = { rspO r.op r.err with items := r.items } := by unfold onlyR; rw [if_neg (by omega), if_neg (by omega), if_pos (by omega)]
          rw [e1]
          exact ⟨xs, X, cx, none, 0, rfl, hv, hx, (Rd.nil _ _ _ _ _ _ (Nat.zero_le _)), hE⟩
        · refine wc_seq (wc_regionL ?_)
          refine ve rfl rfl rfl ?_
          refine va rfl rfl ?_
          refine q_nil (k_then ?_)
          refine wc_cond_d rfl (fun hc5 => ?_) (fun hc5 => ?_)
          · refine wc_regionL ?_
            refine wl_val (ov_field0 (off := 4) fo28_4 rfl) rfl rfl rfl ?_
            refine wl_val (ov_loadAt oc3 rfl hb_g1 rfl) rfl rfl rfl ?_
            refine wl_val (ov_field0 (off := 4) fo28_4 rfl) rfl rfl rfl ?_
            refine wl_step0 (or_storeAt (cs' := [(.int .i64 r.op), (.int .i64 r.err), (.slice none 0 0), (.int .u64 0), (.int .i64 r.count), (.slice none 0 0)]) sz3 rfl rfl rfl hb_g3 rfl rfl) rfl rfl ?_
            rintro _ w205 ⟨hN205, hg205⟩
            have hz_hg205 := hg205.size
            replace hx := RdI.gr hx hg205 (fun _ e => by cases e; omega)
            replace hn := hn.gr hg205 (fun _ e => by cases e; omega)
            replace hE := hE.gr hg205 (fun _ e => by cases e; omega)
            replace hb_g1 := hb_g1.gr hg205 (by intro e; cases e; omega)
            replace hb_g2 := hb_g2.gr hg205 (by intro e; cases e; omega)
            replace hb_g3 := hN205
            refine q_nil (k_block (k_then (wc_seq (wc_regionL ?_))))
            refine wl_val (ov_loadBlk (cs := [(.int .i64 r.op), (.int .i64 r.err), (.slice none 0 0), (.int .u64 0), (.int .i64 r.count), (.slice none 0 0)]) ag28_6 rfl hb_g3) rfl rfl rfl ?_
            refine wl_step0 (or_storeBlk (vs := [(.int .i64 r.op), (.int .i64 r.err), (.slice none 0 0), (.int .u64 0), (.int .i64 r.count), (.slice none 0 0)]) sz28 rfl rfl (by simp [Value.oneCell']) hb_g2 rfl) rfl rfl ?_
            rintro _ w206 ⟨hN206, hg206⟩
            have hz_hg206 := hg206.size
            replace hx := RdI.gr hx hg206 (fun _ e => by cases e; omega)
            replace hn := hn.gr hg206 (fun _ e => by cases e; omega)
            replace hE := hE.gr hg206 (fun _ e => by cases e; omega)
            replace hb_g1 := hb_g1.gr hg206 (by intro e; cases e; omega)
            replace hb_g3 := hb_g3.gr hg206 (by intro e; cases e; omega)
            replace hb_g2 := hN206
            refine q_nil (k_then (q_ret ?_))
            refine e_retL (rs := [.cell 2 28]) (vs := [.agg #[(.int .i64 r.op), (.int .i64 r.err), (.slice none 0 0), (.int .u64 0), (.int .i64 r.count), (.slice none 0 0)]]) rfl ⟨⟨_, _, [(.int .i64 r.op), (.int .i64 r.err), (.slice none 0 0), (.int .u64 0), (.int .i64 r.count), (.slice none 0 0)], rfl, ag28_6, hb_g2, rfl⟩, trivial⟩ ?_
            have e1 : onlyR r = { rspO r.op r.err with count := r.count } := by unfold onlyR; rw [if_neg (by omega), if_neg (by omega), if_neg (by omega), if_pos (by omega)]
            rw [e1]
            exact ⟨[], none, 0, none, 0, rfl, rfl, (RdI.nil _ _ _), (Rd.nil _ _ _ _ _ _ (Nat.zero_le _)), hE⟩
          · refine wc_seq (wc_regionL ?_)
            refine ve rfl rfl rfl ?_
            refine va rfl rfl ?_
            refine q_nil (k_then ?_)
            refine wc_cond_d rfl (fun hc6 => ?_) (fun hc6 => ?_)
            · refine wc_regionL ?_
              refine wl_val (ov_field0 (off := 5) fo28_5 rfl) rfl rfl rfl ?_
              refine wl_val (ov_loadAt oc26 rfl hb_g1 rfl) rfl rfl rfl ?_
              refine wl_val (ov_field0 (off := 5) fo28_5 rfl) rfl rfl rfl ?_
              refine wl_step0 (or_storeAt (cs' := [(.int .i64 r.op), (.int .i64 r.err), (.slice none 0 0), (.int .u64 0), (.int .i64 0), (.slice N r.nums.length cn)]) sz26 rfl rfl rfl hb_g3 rfl rfl) rfl rfl ?_
              rintro _ w205 ⟨hN205, hg205⟩
              have hz_hg205 := hg205.size
              replace hx := RdI.gr hx hg205 (fun _ e => by cases e; omega)
              replace hn := hn.gr hg205 (fun _ e => by cases e; omega)
              replace hE := hE.gr hg205 (fun _ e => by cases e; omega)
              replace hb_g1 := hb_g1.gr hg205 (by intro e; cases e; omega)
              replace hb_g2 := hb_g2.gr hg205 (by intro e; cases e; omega)
              replace hb_g3 := hN205
              refine q_nil (k_block (k_then (wc_seq (wc_regionL ?_))))
              refine wl_val (ov_loadBlk (cs := [(.int .i64 r.op), (.int .i64 r.err), (.slice none 0 0), (.int .u64 0), (.int .i64 0), (.slice N r.nums.length cn)]) ag28_6 rfl hb_g3) rfl rfl rfl ?_
              refine wl_step0 (or_storeBlk (vs := [(.int .i64 r.op), (.int .i64 r.err), (.slice none 0 0), (.int .u64 0), (.int .i64 0), (.slice N r.nums.length cn)]) sz28 rfl rfl (by simp [Value.oneCell']) hb_g2 rfl) rfl rfl ?_
              rintro _ w206 ⟨hN206, hg206⟩
              have hz_hg206 := hg206.size
              replace hx := RdI.gr hx hg206 (fun _ e => by cases e; omega)
              replace hn := hn.gr hg206 (fun _ e => by cases e; omega)
              replace hE := hE.gr hg206 (fun _ e => by cases e; omega)
              replace hb_g1 := hb_g1.gr hg206 (by intro e; cases e; omega)
              replace hb_g3 := hb_g3.gr hg206 (by intro e; cases e; omega)
              replace hb_g2 := hN206
              refine q_nil (k_then (q_ret ?_))
              refine e_retL (rs := [.cell 2 28]) (vs := [.agg #[(.int .i64 r.op), (.int .i64 r.err), (.slice none 0 0), (.int .u64 0), (.int .i64 0), (.slice N r.nums.length cn)]]) rfl ⟨⟨_, _, [(.int .i64 r.op), (.int .i64 r.err), (.slice none 0 0), (.int .u64 0), (.int .i64 0), (.slice N r.nums.length cn)], rfl, ag28_6, hb_g2, rfl⟩, trivial⟩ ?_
              have e1 : onlyR r = { rspO r.op r.err with nums := r.nums } := by unfold onlyR; rw [if_neg (by omega), if_neg (by omega), if_neg (by omega), if_neg (by omega), if_pos (by omega)]
              rw [e1]
              exact ⟨[], none, 0, N, cn, rfl, rfl, (RdI.nil _ _ _), hn, hE⟩
            · refine q_skip (k_block (k_then (wc_seq (wc_regionL ?_))))
              refine wl_val (ov_loadBlk (cs := [(.int .i64 r.op), (.int .i64 r.err), (.slice none 0 0), (.int .u64 0), (.int .i64 0), (.slice none 0 0)]) ag28_6 rfl hb_g3) rfl rfl rfl ?_
              refine wl_step0 (or_storeBlk (vs := [(.int .i64 r.op), (.int .i64 r.err), (.slice none 0 0), (.int .u64 0), (.int .i64 0), (.slice none 0 0)]) sz28 rfl rfl (by simp [Value.oneCell']) hb_g2 rfl) rfl rfl ?_
              rintro _ w205 ⟨hN205, hg205⟩
              have hz_hg205 := hg205.size
              replace hx := RdI.gr hx hg205 (fun _ e => by cases e; omega)
              replace hn := hn.gr hg205 (fun _ e => by cases e; omega)
              replace hE := hE.gr hg205 (fun _ e => by cases e; omega)
              replace hb_g1 := hb_g1.gr hg205 (by intro e; cases e; omega)
              replace hb_g3 := hb_g3.gr hg205 (by intro e; cases e; omega)
              replace hb_g2 := hN205
              refine q_nil (k_then (q_ret ?_))
              refine e_retL (rs := [.cell 2 28]) (vs := [.agg #[(.int .i64 r.op), (.int .i64 r.err), (.slice none 0 0), (.int .u64 0), (.int .i64 0), (.slice none 0 0)]]) rfl ⟨⟨_, _, [(.int .i64 r.op), (.int .i64 r.err), (.slice none 0 0), (.int .u64 0), (.int .i64 0), (.slice none 0 0)], rfl, ag28_6, hb_g2, rfl⟩, trivial⟩ ?_
              have e1 : onlyR r = rspO r.op r.err := by unfold onlyR; rw [if_neg (by omega), if_neg (by omega), if_neg (by omega), if_neg (by omega), if_neg (by omega)]
              rw [e1]
              exact ⟨[], none, 0, none, 0, rfl, rfl, (RdI.nil _ _ _), (Rd.nil _ _ _ _ _ _ (Nat.zero_le _)), hE⟩

end Go.Proofs.Ytohnkjjjejnkpaa
