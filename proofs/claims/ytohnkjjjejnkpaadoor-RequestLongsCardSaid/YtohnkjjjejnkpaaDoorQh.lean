/-
  The frame of a command.
-/
import Derived.Test.YtohnkjjjejnkpaaDoorQg
namespace Go.Proofs.YtohnkjjjejnkpaaDoor
open Go.RowKit
set_option linter.unusedVariables false
set_option maxRecDepth 4000
theorem ag40_2 : aggTy Tryd.prog 40 2 = true := by kernel_rfl
theorem cl17 : callable Tryd.prog 17 = true := by kernel_rfl
theorem cl24 : callable Tryd.prog 24 = true := by kernel_rfl
theorem cl26 : callable Tryd.prog 26 = true := by kernel_rfl
theorem cl27 : callable Tryd.prog 27 = true := by kernel_rfl
theorem pl40 : placesOf Tryd.prog 40 = some [(0, 1), (1, 1)] := by kernel_rfl
theorem sz40 : (Tryd.prog.info? 40).map (·.size) = some 2 := by kernel_rfl
theorem ze40 : zeroOf Tryd.prog 40 = some (.agg #[(.int .u8 0), (.slice none 0 0)]) := by kernel_rfl

theorem valid_any (w : World) (op : Int) :
    Fn Tryd.prog 27 #[(.int .i64 op)] w (fun v w' => v = .bool (decide (1 ≤ op ∧ op ≤ 15)) ∧ w' = w)  := by
  refine fn_enter (args := [(.int .i64 op)]) Tryd.func27 rfl rfl rfl ?_
  show WC _ _ _ _ [(0, (.int .i64 op))] _
  refine wc_seq (wc_regionL ?_)
  refine va rfl rfl ?_
  refine q_nil (k_then (wc_seq (wc_regionL ?_)))
  refine vm rfl rfl ?_
  refine wl_val (ov_gtr rfl rfl) rfl rfl rfl ?_
  refine wl_case_d (d := 4) rfl (fun h4 => ?_) (fun h4 => ?_)
  · refine vm rfl rfl ?_
    refine wl_gval (ov_move rfl) rfl rfl rfl rfl rfl ?_
    refine wl_gval (ov_lss rfl rfl) rfl rfl rfl rfl rfl ?_
    refine wl_val (ov_pick_t rfl rfl) rfl rfl rfl ?_
    refine va rfl rfl ?_
    refine q_nil (k_then (q_ret ?_))
    refine e_ret rfl rfl ?_
    refine ⟨?_, rfl⟩
    first | (congr 1; rw [decide_eq_decide]; omega) | (rw [decide_eq_false (by omega)])
  · refine vm rfl rfl ?_
    iterate 2 refine wl_gskip rfl rfl rfl rfl rfl rfl ?_
    refine wl_val (ov_pick_f rfl rfl) rfl rfl rfl ?_
    refine va rfl rfl ?_
    refine q_nil (k_then (q_ret ?_))
    refine e_ret rfl rfl ?_
    refine ⟨?_, rfl⟩
    first | (congr 1; rw [decide_eq_decide]; omega) | (rw [decide_eq_false (by omega)])

/-- The frame of a command, and the error. -/
def codeOf (c : Cmd) : UInt8 := UInt8.ofNat c.op.toNat
theorem codeOf_nat {c : Cmd} (h1 : 1 ≤ c.op) (h2 : c.op ≤ 15) : ((codeOf c).toNat : Int) = c.op := by unfold codeOf; rw [UInt8.toNat_ofNat']; omega
theorem wu8_op {c : Cmd} (h1 : 1 ≤ c.op) (h2 : c.op ≤ 15) : IntKind.u8.wrap c.op = ((codeOf c).toNat : Int) := by
  rw [codeOf_nat h1 h2, wu8 (by omega) (by omega)]
def wrC (c : Cmd) : (UInt8 × List UInt8) × Nat := if 1 ≤ c.op ∧ c.op ≤ 15 ∧ c.value.length ≤ 65536 ∧ (wfold c).2 = false ∧ rdC (codeOf c) (wfold c).1 = (c, 0) then ((codeOf c, (wfold c).1), 0) else ((0, []), 2)
theorem wrC_ok {c : Cmd} (h1 : 1 ≤ c.op) (h2 : c.op ≤ 15) (h3 : c.value.length ≤ 65536) (h4 : (wfold c).2 = false) (h5 : rdC (codeOf c) (wfold c).1 = (c, 0)) : wrC c = ((codeOf c, (wfold c).1), 0) := if_pos ⟨h1, h2, h3, h4, h5⟩
theorem wrC_bad {c : Cmd} (h : ¬ (1 ≤ c.op ∧ c.op ≤ 15 ∧ c.value.length ≤ 65536 ∧ (wfold c).2 = false ∧ rdC (codeOf c) (wfold c).1 = (c, 0))) : wrC c = ((0, []), 2) := if_neg h
theorem wlst_len2 (a b : Nat) (al : List UInt8 → Bool) (st : List UInt8 × Bool) (l : List (List UInt8)) : (wlst a b al st l).1.length ≤ st.1.length + (wl l).length := wlst_len a b al st.1 st.2 l
theorem wstep_len (c : Cmd) (st : List UInt8 × Bool) (p : UInt8) : (wstep c st p).1.length ≤ st.1.length + csz c + 10 := by
  have h1 := enc_len c.life
  have h2 := enc_len c.ver
  have h3 := wlst_len2 0 16 tv st c.tags
  have h4 := wlst_len2 1 16 kv st c.keys
  have e (s : List UInt8) : (pb s).length ≤ s.length + 10 := by have := enc_len s.length; rw [len_pb]; omega
  have e1 := e c.key
  have e2 := e c.value
  have e3 := e c.tag
  have e4 := e c.pre
  have e5 := e c.child
  unfold wstep csz
  repeat' split
  all_goals (first | (simp only [wpart, List.length_append]; omega) | omega)
theorem wfold_len0 (c : Cmd) (ps : List UInt8) (st : List UInt8 × Bool) : (ps.foldl (wstep c) st).1.length ≤ st.1.length + ps.length * (csz c + 10) := by
  induction ps generalizing st with
  | nil => simp
  | cons p r ih =>
    have h1 := ih (wstep c st p)
    have h2 := wstep_len c st p
    have h3 : (p :: r).length * (csz c + 10) = r.length * (csz c + 10) + (csz c + 10) := by rw [List.length_cons, Nat.succ_mul]
    rw [List.foldl_cons]; omega
theorem needs_len (op : Int) : (needs op).length ≤ 5 := by unfold needs; repeat' split
                                                           all_goals decide
theorem wfold_len (c : Cmd) : (wfold c).1.length ≤ 5 * (csz c + 10) := by
  have h1 := wfold_len0 c (needs c.op) ([], false)
  have h2 : (needs c.op).length * (csz c + 10) ≤ 5 * (csz c + 10) := Nat.mul_le_mul_right _ (needs_len _)
  unfold wfold
  simp only [List.length_nil] at h1
  omega

theorem wwrite_op (w : World) (cm : Cmd) (lo hi : Nat) (K : Option Addr) (ck : Nat) (V : Option Addr) (cv : Nat) (T : Option Addr) (ct : Nat) (hK : RdS w lo hi K ck cm.keys) (hV : RdB w lo hi V cv cm.value) (hT : RdS w lo hi T ct cm.tags) (hlf : cm.life < 18446744073709551616) (hvr : cm.ver < 18446744073709551616) (hsz : csz cm ≤ 17592186044416) (h1 : cm.op < 1 ∨ 15 < cm.op) :
    Fn Tryd.prog 17 #[(.agg #[(.int .i64 cm.op), (.string (strB cm.key)), (.slice K cm.keys.length ck), (.slice V cm.value.length cv), (.slice T cm.tags.length ct), (.int .u64 (↑cm.life : Int)), (.int .u64 (↑cm.ver : Int)), (.string (strB cm.tag)), (.string (strB cm.pre)), (.string (strB cm.child))])] w (fun v w' => ∃ A c, v = .tuple #[.agg #[.int .u8 ((0 : Nat) : Int), .slice A ([] : List UInt8).length c], .int .i64 2] ∧ OwnB w' w.heap.size 5 A c ([] : List UInt8) ∧ Ext w w')  := by
  replace hK := hK.top
  replace hV := hV.top
  replace hT := hT.top
  have hE := ext_refl w
  have hwl := wfold_len cm
  refine fn_enter (args := [(.agg #[(.int .i64 cm.op), (.string (strB cm.key)), (.slice K cm.keys.length ck), (.slice V cm.value.length cv), (.slice T cm.tags.length ct), (.int .u64 (↑cm.life : Int)), (.int .u64 (↑cm.ver : Int)), (.string (strB cm.tag)), (.string (strB cm.pre)), (.string (strB cm.child))])]) Tryd.func17 rfl rfl rfl ?_
  show WC _ _ _ _ [(0, (.agg #[(.int .i64 cm.op), (.string (strB cm.key)), (.slice K cm.keys.length ck), (.slice V cm.value.length cv), (.slice T cm.tags.length ct), (.int .u64 (↑cm.life : Int)), (.int .u64 (↑cm.ver : Int)), (.string (strB cm.tag)), (.string (strB cm.pre)), (.string (strB cm.child))]))] _
  refine wc_seq (wc_regionL ?_)
  refine wl_step (or_box (cs := [(.int .i64 cm.op), (.string (strB cm.key)), (.slice K cm.keys.length ck), (.slice V cm.value.length cv), (.slice T cm.tags.length ct), (.int .u64 (↑cm.life : Int)), (.int .u64 (↑cm.ver : Int)), (.string (strB cm.tag)), (.string (strB cm.pre)), (.string (strB cm.child))]) rfl rfl) rfl rfl rfl ?_
  rintro v w1 ⟨g1, rfl, hb_g1, he1, hl1, hu1⟩
  replace hK := hK.ext he1
  replace hV := hV.ext he1
  replace hT := hT.ext he1
  replace hE := hE.tr he1
  have hz_he1 := he1.size
  refine wl_step (or_alloc (cs := [(.int .u8 0), (.slice none 0 0)]) ze40 rfl) rfl rfl rfl ?_
  rintro v w2 ⟨g2, rfl, hb_g2, he2, hl2, hu2⟩
  replace hK := hK.ext he2
  replace hV := hV.ext he2
  replace hT := hT.ext he2
  replace hE := hE.tr he2
  replace hb_g1 := hb_g1.ext he2
  have hz_he2 := he2.size
  refine va rfl rfl ?_
  refine q_nil (k_then (wc_seq (wc_seq (wc_regionL ?_))))
  refine wl_val (ov_field0 (off := 0) fo36_0 rfl) rfl rfl rfl ?_
  refine wl_val (ov_loadAt oc22 rfl hb_g1 rfl) rfl rfl rfl ?_
  refine wl_val (or_call0 cl27 rfl rfl (valid_any _ cm.op)) rfl rfl rfl ?_
  refine wl_spell (d := 10) rfl (bf (by omega)) ?_
  refine wl_val (ov_not (b := false) rfl) rfl rfl rfl ?_
  refine vm rfl rfl ?_
  iterate 4 refine wl_gskip rfl rfl rfl rfl rfl rfl ?_
  refine wl_val (ov_pick_t rfl rfl) rfl rfl rfl ?_
  refine q_nil (k_then ?_)
  refine wc_cond_t rfl ?_
  refine wc_seq (wc_regionL ?_)
  refine wl_val (ov_build (cs := [(.int .u8 0), (.slice none 0 0)]) ze40 pl40 rfl rfl) rfl rfl rfl ?_
  refine wl_step0 (or_storeBlk (vs := [(.int .u8 0), (.slice none 0 0)]) sz40 rfl rfl (by simp [Value.oneCell']) hb_g2 rfl) rfl rfl ?_
  rintro _ w3 ⟨hN3, hg3⟩
  have hz_hg3 := hg3.size
  replace hK := hK.gr hg3 (fun _ e => by cases e; omega)
  replace hV := hV.gr hg3 (fun _ e => by cases e; omega)
  replace hT := hT.gr hg3 (fun _ e => by cases e; omega)
  replace hE := hE.gr hg3 (fun _ e => by cases e; omega)
  replace hb_g1 := hb_g1.gr hg3 (by intro e; cases e; omega)
  replace hb_g2 := hN3
  refine va rfl rfl ?_
  refine q_nil (k_then (q_ret (k_thenR ?_)))
  refine e_retL (rs := [.cell 2 40, .tmp 3]) (vs := [.agg #[(.int .u8 0), (.slice none 0 0)], (.int .i64 2)]) rfl ⟨⟨_, _, [(.int .u8 0), (.slice none 0 0)], rfl, ag40_2, hb_g2, rfl⟩, rfl, trivial⟩ ?_
  exact ⟨none, 0, rfl, Own.nil_ _ _ _ _, hE⟩

theorem wwrite_value (w : World) (cm : Cmd) (lo hi : Nat) (K : Option Addr) (ck : Nat) (V : Option Addr) (cv : Nat) (T : Option Addr) (ct : Nat) (hK : RdS w lo hi K ck cm.keys) (hV : RdB w lo hi V cv cm.value) (hT : RdS w lo hi T ct cm.tags) (hlf : cm.life < 18446744073709551616) (hvr : cm.ver < 18446744073709551616) (hsz : csz cm ≤ 17592186044416) (h1 : 1 ≤ cm.op) (h2 : cm.op ≤ 15) (h3 : 65536 < cm.value.length) :
    Fn Tryd.prog 17 #[(.agg #[(.int .i64 cm.op), (.string (strB cm.key)), (.slice K cm.keys.length ck), (.slice V cm.value.length cv), (.slice T cm.tags.length ct), (.int .u64 (↑cm.life : Int)), (.int .u64 (↑cm.ver : Int)), (.string (strB cm.tag)), (.string (strB cm.pre)), (.string (strB cm.child))])] w (fun v w' => ∃ A c, v = .tuple #[.agg #[.int .u8 ((0 : Nat) : Int), .slice A ([] : List UInt8).length c], .int .i64 2] ∧ OwnB w' w.heap.size 5 A c ([] : List UInt8) ∧ Ext w w')  := by
  replace hK := hK.top
  replace hV := hV.top
  replace hT := hT.top
  have hE := ext_refl w
  have hwl := wfold_len cm
  refine fn_enter (args := [(.agg #[(.int .i64 cm.op), (.string (strB cm.key)), (.slice K cm.keys.length ck), (.slice V cm.value.length cv), (.slice T cm.tags.length ct), (.int .u64 (↑cm.life : Int)), (.int .u64 (↑cm.ver : Int)), (.string (strB cm.tag)), (.string (strB cm.pre)), (.string (strB cm.child))])]) Tryd.func17 rfl rfl rfl ?_
  show WC _ _ _ _ [(0, (.agg #[(.int .i64 cm.op), (.string (strB cm.key)), (.slice K cm.keys.length ck), (.slice V cm.value.length cv), (.slice T cm.tags.length ct), (.int .u64 (↑cm.life : Int)), (.int .u64 (↑cm.ver : Int)), (.string (strB cm.tag)), (.string (strB cm.pre)), (.string (strB cm.child))]))] _
  refine wc_seq (wc_regionL ?_)
  refine wl_step (or_box (cs := [(.int .i64 cm.op), (.string (strB cm.key)), (.slice K cm.keys.length ck), (.slice V cm.value.length cv), (.slice T cm.tags.length ct), (.int .u64 (↑cm.life : Int)), (.int .u64 (↑cm.ver : Int)), (.string (strB cm.tag)), (.string (strB cm.pre)), (.string (strB cm.child))]) rfl rfl) rfl rfl rfl ?_
  rintro v w1 ⟨g1, rfl, hb_g1, he1, hl1, hu1⟩
  replace hK := hK.ext he1
  replace hV := hV.ext he1
  replace hT := hT.ext he1
  replace hE := hE.tr he1
  have hz_he1 := he1.size
  refine wl_step (or_alloc (cs := [(.int .u8 0), (.slice none 0 0)]) ze40 rfl) rfl rfl rfl ?_
  rintro v w2 ⟨g2, rfl, hb_g2, he2, hl2, hu2⟩
  replace hK := hK.ext he2
  replace hV := hV.ext he2
  replace hT := hT.ext he2
  replace hE := hE.tr he2
  replace hb_g1 := hb_g1.ext he2
  have hz_he2 := he2.size
  refine va rfl rfl ?_
  refine q_nil (k_then (wc_seq (wc_seq (wc_regionL ?_))))
  refine wl_val (ov_field0 (off := 0) fo36_0 rfl) rfl rfl rfl ?_
  refine wl_val (ov_loadAt oc22 rfl hb_g1 rfl) rfl rfl rfl ?_
  refine wl_val (or_call0 cl27 rfl rfl (valid_any _ cm.op)) rfl rfl rfl ?_
  refine wl_spell (d := 10) rfl (bt (⟨h1, h2⟩)) ?_
  refine wl_val (ov_not (b := true) rfl) rfl rfl rfl ?_
  refine vm rfl rfl ?_
  refine wl_gval (ov_field0 (off := 3) fo36_3 rfl) rfl rfl rfl rfl rfl ?_
  refine wl_gval (ov_loadAt oc32 rfl hb_g1 rfl) rfl rfl rfl rfl rfl ?_
  refine wl_gval (ov_len Tryd.underlying32 rfl) rfl rfl rfl rfl rfl ?_
  refine wl_gval (ov_gtr rfl rfl) rfl rfl rfl rfl rfl ?_
  refine wl_spell (d := 16) rfl (bt (by omega)) ?_
  refine wl_val (ov_pick_f rfl rfl) rfl rfl rfl ?_
  refine q_nil (k_then ?_)
  refine wc_cond_t rfl ?_
  refine wc_seq (wc_regionL ?_)
  refine wl_val (ov_build (cs := [(.int .u8 0), (.slice none 0 0)]) ze40 pl40 rfl rfl) rfl rfl rfl ?_
  refine wl_step0 (or_storeBlk (vs := [(.int .u8 0), (.slice none 0 0)]) sz40 rfl rfl (by simp [Value.oneCell']) hb_g2 rfl) rfl rfl ?_
  rintro _ w3 ⟨hN3, hg3⟩
  have hz_hg3 := hg3.size
  replace hK := hK.gr hg3 (fun _ e => by cases e; omega)
  replace hV := hV.gr hg3 (fun _ e => by cases e; omega)
  replace hT := hT.gr hg3 (fun _ e => by cases e; omega)
  replace hE := hE.gr hg3 (fun _ e => by cases e; omega)
  replace hb_g1 := hb_g1.gr hg3 (by intro e; cases e; omega)
  replace hb_g2 := hN3
  refine va rfl rfl ?_
  refine q_nil (k_then (q_ret (k_thenR ?_)))
  refine e_retL (rs := [.cell 2 40, .tmp 3]) (vs := [.agg #[(.int .u8 0), (.slice none 0 0)], (.int .i64 2)]) rfl ⟨⟨_, _, [(.int .u8 0), (.slice none 0 0)], rfl, ag40_2, hb_g2, rfl⟩, rfl, trivial⟩ ?_
  exact ⟨none, 0, rfl, Own.nil_ _ _ _ _, hE⟩

theorem wwrite_bad (w : World) (cm : Cmd) (lo hi : Nat) (K : Option Addr) (ck : Nat) (V : Option Addr) (cv : Nat) (T : Option Addr) (ct : Nat) (hK : RdS w lo hi K ck cm.keys) (hV : RdB w lo hi V cv cm.value) (hT : RdS w lo hi T ct cm.tags) (hlf : cm.life < 18446744073709551616) (hvr : cm.ver < 18446744073709551616) (hsz : csz cm ≤ 17592186044416) (h1 : 1 ≤ cm.op) (h2 : cm.op ≤ 15) (h3 : cm.value.length ≤ 65536) (h4 : (wfold cm).2 = true) :
    Fn Tryd.prog 17 #[(.agg #[(.int .i64 cm.op), (.string (strB cm.key)), (.slice K cm.keys.length ck), (.slice V cm.value.length cv), (.slice T cm.tags.length ct), (.int .u64 (↑cm.life : Int)), (.int .u64 (↑cm.ver : Int)), (.string (strB cm.tag)), (.string (strB cm.pre)), (.string (strB cm.child))])] w (fun v w' => ∃ A c, v = .tuple #[.agg #[.int .u8 ((0 : Nat) : Int), .slice A ([] : List UInt8).length c], .int .i64 2] ∧ OwnB w' w.heap.size 5 A c ([] : List UInt8) ∧ Ext w w')  := by
  replace hK := hK.top
  replace hV := hV.top
  replace hT := hT.top
  have hE := ext_refl w
  have hwl := wfold_len cm
  refine fn_enter (args := [(.agg #[(.int .i64 cm.op), (.string (strB cm.key)), (.slice K cm.keys.length ck), (.slice V cm.value.length cv), (.slice T cm.tags.length ct), (.int .u64 (↑cm.life : Int)), (.int .u64 (↑cm.ver : Int)), (.string (strB cm.tag)), (.string (strB cm.pre)), (.string (strB cm.child))])]) Tryd.func17 rfl rfl rfl ?_
  show WC _ _ _ _ [(0, (.agg #[(.int .i64 cm.op), (.string (strB cm.key)), (.slice K cm.keys.length ck), (.slice V cm.value.length cv), (.slice T cm.tags.length ct), (.int .u64 (↑cm.life : Int)), (.int .u64 (↑cm.ver : Int)), (.string (strB cm.tag)), (.string (strB cm.pre)), (.string (strB cm.child))]))] _
  refine wc_seq (wc_regionL ?_)
  refine wl_step (or_box (cs := [(.int .i64 cm.op), (.string (strB cm.key)), (.slice K cm.keys.length ck), (.slice V cm.value.length cv), (.slice T cm.tags.length ct), (.int .u64 (↑cm.life : Int)), (.int .u64 (↑cm.ver : Int)), (.string (strB cm.tag)), (.string (strB cm.pre)), (.string (strB cm.child))]) rfl rfl) rfl rfl rfl ?_
  rintro v w1 ⟨g1, rfl, hb_g1, he1, hl1, hu1⟩
  replace hK := hK.ext he1
  replace hV := hV.ext he1
  replace hT := hT.ext he1
  replace hE := hE.tr he1
  have hz_he1 := he1.size
  refine wl_step (or_alloc (cs := [(.int .u8 0), (.slice none 0 0)]) ze40 rfl) rfl rfl rfl ?_
  rintro v w2 ⟨g2, rfl, hb_g2, he2, hl2, hu2⟩
  replace hK := hK.ext he2
  replace hV := hV.ext he2
  replace hT := hT.ext he2
  replace hE := hE.tr he2
  replace hb_g1 := hb_g1.ext he2
  have hz_he2 := he2.size
  refine va rfl rfl ?_
  refine q_nil (k_then (wc_seq (wc_seq (wc_regionL ?_))))
  refine wl_val (ov_field0 (off := 0) fo36_0 rfl) rfl rfl rfl ?_
  refine wl_val (ov_loadAt oc22 rfl hb_g1 rfl) rfl rfl rfl ?_
  refine wl_val (or_call0 cl27 rfl rfl (valid_any _ cm.op)) rfl rfl rfl ?_
  refine wl_spell (d := 10) rfl (bt (⟨h1, h2⟩)) ?_
  refine wl_val (ov_not (b := true) rfl) rfl rfl rfl ?_
  refine vm rfl rfl ?_
  refine wl_gval (ov_field0 (off := 3) fo36_3 rfl) rfl rfl rfl rfl rfl ?_
  refine wl_gval (ov_loadAt oc32 rfl hb_g1 rfl) rfl rfl rfl rfl rfl ?_
  refine wl_gval (ov_len Tryd.underlying32 rfl) rfl rfl rfl rfl rfl ?_
  refine wl_gval (ov_gtr rfl rfl) rfl rfl rfl rfl rfl ?_
  refine wl_spell (d := 16) rfl (bf (by omega)) ?_
  refine wl_val (ov_pick_f rfl rfl) rfl rfl rfl ?_
  refine q_nil (k_then ?_)
  refine wc_cond_f rfl ?_
  refine q_skip (k_then (wc_seq (wc_regionL ?_)))
  refine wl_val (ov_build (cs := [(.pointer (some ⟨g1, 0, none⟩)), (.pointer none), (.slice none 0 0), (.bool false)]) ze64 pl64 rfl rfl) rfl rfl rfl ?_
  refine wl_step (or_alloc (cs := [(.pointer none), (.pointer none), (.slice none 0 0), (.bool false)]) ze64 rfl) rfl rfl rfl ?_
  rintro v w3 ⟨g4, rfl, hb_g4, he4, hl4, hu4⟩
  replace hK := hK.ext he4
  replace hV := hV.ext he4
  replace hT := hT.ext he4
  replace hE := hE.tr he4
  replace hb_g1 := hb_g1.ext he4
  replace hb_g2 := hb_g2.ext he4
  have hz_he4 := he4.size
  refine wl_step0 (or_storeBlk (vs := [(.pointer (some ⟨g1, 0, none⟩)), (.pointer none), (.slice none 0 0), (.bool false)]) sz64 rfl rfl (by simp [Value.oneCell']) hb_g4 rfl) rfl rfl ?_
  rintro _ w4 ⟨hN4, hg4⟩
  have hz_hg4 := hg4.size
  replace hK := hK.gr hg4 (fun _ e => by cases e; omega)
  replace hV := hV.gr hg4 (fun _ e => by cases e; omega)
  replace hT := hT.gr hg4 (fun _ e => by cases e; omega)
  replace hE := hE.gr hg4 (fun _ e => by cases e; omega)
  replace hb_g1 := hb_g1.gr hg4 (by intro e; cases e; omega)
  replace hb_g2 := hb_g2.gr hg4 (by intro e; cases e; omega)
  replace hb_g4 := hN4
  refine q_nil (k_then (wc_seq (wc_regionL ?_)))
  refine wl_step (or_call0 cl31 rfl rfl (partsw _ g4 g1 hb_g4 cm K ck V cv T ct hb_g1 (by omega) _ _ hV (by omega) (by omega) _ _ hK (by omega) (by omega) _ _ hT (by omega) (by omega) hlf hvr hsz h1 h2)) rfl rfl rfl ?_
  rintro v w5 ⟨rfl, ⟨A20, c20, hN, ho20⟩, hgx⟩
  have hz_hgx := hgx.size
  replace hK := hK.gr hgx (fun _ e => by cases e; omega)
  replace hV := hV.gr hgx (fun _ e => by cases e; omega)
  replace hT := hT.gr hgx (fun _ e => by cases e; omega)
  replace hE := hE.gr hgx (fun _ e => by cases e; omega)
  replace hb_g1 := hb_g1.gr hgx (by intro e; cases e; omega)
  replace hb_g2 := hb_g2.gr hgx (by intro e; cases e; omega)
  replace hb_g4 := hN
  have hq_ho20 := fun g e => Own.lt ho20 (g := g) e
  refine q_nil (k_then (wc_seq (wc_regionL ?_)))
  refine wl_val (ov_field0 (off := 0) fo36_0 rfl) rfl rfl rfl ?_
  refine wl_val (ov_loadAt oc22 rfl hb_g1 rfl) rfl rfl rfl ?_
  refine wl_val (ov_conv Tryd.underlying22 Tryd.underlying5 rfl (wu8_op h1 h2)) rfl rfl rfl ?_
  refine wl_val (ov_field0 (off := 2) fo64_2 rfl) rfl rfl rfl ?_
  refine wl_val (ov_loadAt oc32 rfl hb_g4 rfl) rfl rfl rfl ?_
  refine wl_val (ov_build (cs := [(.int .u8 (↑(codeOf cm).toNat : Int)), (.slice A20 (wfold cm).1.length c20)]) ze40 pl40 rfl rfl) rfl rfl rfl ?_
  refine wl_step (or_alloc (cs := [(.int .u8 0), (.slice none 0 0)]) ze40 rfl) rfl rfl rfl ?_
  rintro v w6 ⟨g5, rfl, hb_g5, he5, hl5, hu5⟩
  replace hK := hK.ext he5
  replace hV := hV.ext he5
  replace hT := hT.ext he5
  replace hE := hE.tr he5
  replace hb_g1 := hb_g1.ext he5
  replace hb_g2 := hb_g2.ext he5
  replace hb_g4 := hb_g4.ext he5
  replace ho20 := Own.ext ho20 he5
  have hz_he5 := he5.size
  refine wl_step0 (or_storeBlk (vs := [(.int .u8 (↑(codeOf cm).toNat : Int)), (.slice A20 (wfold cm).1.length c20)]) sz40 rfl rfl (by simp [Value.oneCell']) hb_g5 rfl) rfl rfl ?_
  rintro _ w7 ⟨hN7, hg7⟩
  have hz_hg7 := hg7.size
  replace hK := hK.gr hg7 (fun _ e => by cases e; omega)
  replace hV := hV.gr hg7 (fun _ e => by cases e; omega)
  replace hT := hT.gr hg7 (fun _ e => by cases e; omega)
  replace hE := hE.gr hg7 (fun _ e => by cases e; omega)
  replace hb_g1 := hb_g1.gr hg7 (by intro e; cases e; omega)
  replace hb_g2 := hb_g2.gr hg7 (by intro e; cases e; omega)
  replace hb_g4 := hb_g4.gr hg7 (by intro e; cases e; omega)
  replace ho20 := Own.gr ho20 hg7 (by first | exact .inl rfl | (right; intro e; first | (have := hq_ho20 _ e; omega) | (have := Own.lt ho20 e; omega) | exact own_blk_ne ho20 hb_g5 (by decide) e))
  replace hb_g5 := hN7
  refine q_nil (k_then (wc_seq (wc_seq (wc_regionL ?_))))
  refine wl_val (ov_loadBlk (cs := [(.int .u8 (↑(codeOf cm).toNat : Int)), (.slice A20 (wfold cm).1.length c20)]) ag40_2 rfl hb_g5) rfl rfl rfl ?_
  refine wl_step (or_call0 cl24 rfl rfl (rread_any _ (codeOf cm) _ _ A20 c20 (wfold cm).1 (OwnB.rd ho20) (by first | omega | decide | (simp; done)))) rfl rfl rfl ?_
  rintro v w8 ⟨K29, ck29, V29, cv29, T29, ct29, rfl, hK29, hV29, hT29, he29⟩
  replace hK := hK.ext he29
  replace hV := hV.ext he29
  replace hT := hT.ext he29
  replace hE := hE.tr he29
  replace hb_g1 := hb_g1.ext he29
  replace hb_g2 := hb_g2.ext he29
  replace hb_g4 := hb_g4.ext he29
  replace ho20 := Own.ext ho20 he29
  replace hb_g5 := hb_g5.ext he29
  have hz_he29 := he29.size
  refine vm rfl rfl ?_
  iterate 2 refine vx rfl rfl rfl ?_
  refine wl_step (or_alloc (cs := [(.int .i64 0), (.string (strB [])), (.slice none 0 0), (.slice none 0 0), (.slice none 0 0), (.int .u64 0), (.int .u64 0), (.string (strB [])), (.string (strB [])), (.string (strB []))]) ze36 rfl) rfl rfl rfl ?_
  rintro v w9 ⟨g6, rfl, hb_g6, he6, hl6, hu6⟩
  replace hK := hK.ext he6
  replace hV := hV.ext he6
  replace hT := hT.ext he6
  replace hE := hE.tr he6
  replace hb_g1 := hb_g1.ext he6
  replace hb_g2 := hb_g2.ext he6
  replace hb_g4 := hb_g4.ext he6
  replace ho20 := Own.ext ho20 he6
  replace hb_g5 := hb_g5.ext he6
  replace hK29 := hK29.ext he6
  replace hV29 := hV29.ext he6
  replace hT29 := hT29.ext he6
  have hz_he6 := he6.size
  refine wl_step0 (or_storeBlk (vs := [(.int .i64 (rdC (codeOf cm) (wfold cm).1).1.op), (.string (strB (rdC (codeOf cm) (wfold cm).1).1.key)), (.slice K29 (rdC (codeOf cm) (wfold cm).1).1.keys.length ck29), (.slice V29 (rdC (codeOf cm) (wfold cm).1).1.value.length cv29), (.slice T29 (rdC (codeOf cm) (wfold cm).1).1.tags.length ct29), (.int .u64 (↑(rdC (codeOf cm) (wfold cm).1).1.life : Int)), (.int .u64 (↑(rdC (codeOf cm) (wfold cm).1).1.ver : Int)), (.string (strB (rdC (codeOf cm) (wfold cm).1).1.tag)), (.string (strB (rdC (codeOf cm) (wfold cm).1).1.pre)), (.string (strB (rdC (codeOf cm) (wfold cm).1).1.child))]) sz36 rfl rfl (by simp [Value.oneCell']) hb_g6 rfl) rfl rfl ?_
  rintro _ w10 ⟨hN10, hg10⟩
  have hz_hg10 := hg10.size
  replace hK := hK.gr hg10 (fun _ e => by cases e; omega)
  replace hV := hV.gr hg10 (fun _ e => by cases e; omega)
  replace hT := hT.gr hg10 (fun _ e => by cases e; omega)
  replace hE := hE.gr hg10 (fun _ e => by cases e; omega)
  replace hb_g1 := hb_g1.gr hg10 (by intro e; cases e; omega)
  replace hb_g2 := hb_g2.gr hg10 (by intro e; cases e; omega)
  replace hb_g4 := hb_g4.gr hg10 (by intro e; cases e; omega)
  replace ho20 := Own.gr ho20 hg10 (by first | exact .inl rfl | (right; intro e; first | (have := hq_ho20 _ e; omega) | (have := Own.lt ho20 e; omega) | exact own_blk_ne ho20 hb_g6 (by decide) e))
  replace hb_g5 := hb_g5.gr hg10 (by intro e; cases e; omega)
  replace hK29 := hK29.gr hg10 (fun _ e => by cases e; omega)
  replace hV29 := hV29.gr hg10 (fun _ e => by cases e; omega)
  replace hT29 := hT29.gr hg10 (fun _ e => by cases e; omega)
  replace hb_g6 := hN10
  refine va rfl rfl ?_
  refine q_nil (k_then (wc_seq (wc_regionL ?_)))
  refine wl_val (ov_field0 (off := 3) fo64_3 rfl) rfl rfl rfl ?_
  refine wl_val (ov_loadAt oc4 rfl hb_g4 rfl) rfl rfl rfl ?_
  refine wl_spell (d := 33) rfl (v' := (.bool true)) (by rw [h4]) ?_
  refine vm rfl rfl ?_
  iterate 2 refine wl_gskip rfl rfl rfl rfl rfl rfl ?_
  refine wl_val (ov_pick_t rfl rfl) rfl rfl rfl ?_
  refine vm rfl rfl ?_
  iterate 4 refine wl_gskip rfl rfl rfl rfl rfl rfl ?_
  refine wl_val (ov_pick_t rfl rfl) rfl rfl rfl ?_
  refine q_nil (k_then ?_)
  refine wc_cond_t rfl ?_
  refine wc_seq (wc_regionL ?_)
  refine wl_val (ov_build (cs := [(.int .u8 0), (.slice none 0 0)]) ze40 pl40 rfl rfl) rfl rfl rfl ?_
  refine wl_step0 (or_storeBlk (vs := [(.int .u8 0), (.slice none 0 0)]) sz40 rfl rfl (by simp [Value.oneCell']) hb_g2 rfl) rfl rfl ?_
  rintro _ w11 ⟨hN11, hg11⟩
  have hz_hg11 := hg11.size
  replace hK := hK.gr hg11 (fun _ e => by cases e; omega)
  replace hV := hV.gr hg11 (fun _ e => by cases e; omega)
  replace hT := hT.gr hg11 (fun _ e => by cases e; omega)
  replace hE := hE.gr hg11 (fun _ e => by cases e; omega)
  replace hb_g1 := hb_g1.gr hg11 (by intro e; cases e; omega)
  replace hb_g4 := hb_g4.gr hg11 (by intro e; cases e; omega)
  replace ho20 := Own.gr ho20 hg11 (by first | exact .inl rfl | (right; intro e; first | (have := hq_ho20 _ e; omega) | (have := Own.lt ho20 e; omega) | exact own_blk_ne ho20 hb_g2 (by decide) e))
  replace hb_g5 := hb_g5.gr hg11 (by intro e; cases e; omega)
  replace hK29 := hK29.gr hg11 (fun _ e => by cases e; omega)
  replace hV29 := hV29.gr hg11 (fun _ e => by cases e; omega)
  replace hT29 := hT29.gr hg11 (fun _ e => by cases e; omega)
  replace hb_g6 := hb_g6.gr hg11 (by intro e; cases e; omega)
  replace hb_g2 := hN11
  refine va rfl rfl ?_
  refine q_nil (k_then (q_ret (k_thenR ?_)))
  refine e_retL (rs := [.cell 2 40, .tmp 3]) (vs := [.agg #[(.int .u8 0), (.slice none 0 0)], (.int .i64 2)]) rfl ⟨⟨_, _, [(.int .u8 0), (.slice none 0 0)], rfl, ag40_2, hb_g2, rfl⟩, rfl, trivial⟩ ?_
  exact ⟨none, 0, rfl, Own.nil_ _ _ _ _, hE⟩

theorem wwrite_err (w : World) (cm : Cmd) (lo hi : Nat) (K : Option Addr) (ck : Nat) (V : Option Addr) (cv : Nat) (T : Option Addr) (ct : Nat) (hK : RdS w lo hi K ck cm.keys) (hV : RdB w lo hi V cv cm.value) (hT : RdS w lo hi T ct cm.tags) (hlf : cm.life < 18446744073709551616) (hvr : cm.ver < 18446744073709551616) (hsz : csz cm ≤ 17592186044416) (h1 : 1 ≤ cm.op) (h2 : cm.op ≤ 15) (h3 : cm.value.length ≤ 65536) (h4 : (wfold cm).2 = false) (h5 : ¬ (rdC (codeOf cm) (wfold cm).1).2 = 0) :
    Fn Tryd.prog 17 #[(.agg #[(.int .i64 cm.op), (.string (strB cm.key)), (.slice K cm.keys.length ck), (.slice V cm.value.length cv), (.slice T cm.tags.length ct), (.int .u64 (↑cm.life : Int)), (.int .u64 (↑cm.ver : Int)), (.string (strB cm.tag)), (.string (strB cm.pre)), (.string (strB cm.child))])] w (fun v w' => ∃ A c, v = .tuple #[.agg #[.int .u8 ((0 : Nat) : Int), .slice A ([] : List UInt8).length c], .int .i64 2] ∧ OwnB w' w.heap.size 5 A c ([] : List UInt8) ∧ Ext w w')  := by
  replace hK := hK.top
  replace hV := hV.top
  replace hT := hT.top
  have hE := ext_refl w
  have hwl := wfold_len cm
  refine fn_enter (args := [(.agg #[(.int .i64 cm.op), (.string (strB cm.key)), (.slice K cm.keys.length ck), (.slice V cm.value.length cv), (.slice T cm.tags.length ct), (.int .u64 (↑cm.life : Int)), (.int .u64 (↑cm.ver : Int)), (.string (strB cm.tag)), (.string (strB cm.pre)), (.string (strB cm.child))])]) Tryd.func17 rfl rfl rfl ?_
  show WC _ _ _ _ [(0, (.agg #[(.int .i64 cm.op), (.string (strB cm.key)), (.slice K cm.keys.length ck), (.slice V cm.value.length cv), (.slice T cm.tags.length ct), (.int .u64 (↑cm.life : Int)), (.int .u64 (↑cm.ver : Int)), (.string (strB cm.tag)), (.string (strB cm.pre)), (.string (strB cm.child))]))] _
  refine wc_seq (wc_regionL ?_)
  refine wl_step (or_box (cs := [(.int .i64 cm.op), (.string (strB cm.key)), (.slice K cm.keys.length ck), (.slice V cm.value.length cv), (.slice T cm.tags.length ct), (.int .u64 (↑cm.life : Int)), (.int .u64 (↑cm.ver : Int)), (.string (strB cm.tag)), (.string (strB cm.pre)), (.string (strB cm.child))]) rfl rfl) rfl rfl rfl ?_
  rintro v w1 ⟨g1, rfl, hb_g1, he1, hl1, hu1⟩
  replace hK := hK.ext he1
  replace hV := hV.ext he1
  replace hT := hT.ext he1
  replace hE := hE.tr he1
  have hz_he1 := he1.size
  refine wl_step (or_alloc (cs := [(.int .u8 0), (.slice none 0 0)]) ze40 rfl) rfl rfl rfl ?_
  rintro v w2 ⟨g2, rfl, hb_g2, he2, hl2, hu2⟩
  replace hK := hK.ext he2
  replace hV := hV.ext he2
  replace hT := hT.ext he2
  replace hE := hE.tr he2
  replace hb_g1 := hb_g1.ext he2
  have hz_he2 := he2.size
  refine va rfl rfl ?_
  refine q_nil (k_then (wc_seq (wc_seq (wc_regionL ?_))))
  refine wl_val (ov_field0 (off := 0) fo36_0 rfl) rfl rfl rfl ?_
  refine wl_val (ov_loadAt oc22 rfl hb_g1 rfl) rfl rfl rfl ?_
  refine wl_val (or_call0 cl27 rfl rfl (valid_any _ cm.op)) rfl rfl rfl ?_
  refine wl_spell (d := 10) rfl (bt (⟨h1, h2⟩)) ?_
  refine wl_val (ov_not (b := true) rfl) rfl rfl rfl ?_
  refine vm rfl rfl ?_
  refine wl_gval (ov_field0 (off := 3) fo36_3 rfl) rfl rfl rfl rfl rfl ?_
  refine wl_gval (ov_loadAt oc32 rfl hb_g1 rfl) rfl rfl rfl rfl rfl ?_
  refine wl_gval (ov_len Tryd.underlying32 rfl) rfl rfl rfl rfl rfl ?_
  refine wl_gval (ov_gtr rfl rfl) rfl rfl rfl rfl rfl ?_
  refine wl_spell (d := 16) rfl (bf (by omega)) ?_
  refine wl_val (ov_pick_f rfl rfl) rfl rfl rfl ?_
  refine q_nil (k_then ?_)
  refine wc_cond_f rfl ?_
  refine q_skip (k_then (wc_seq (wc_regionL ?_)))
  refine wl_val (ov_build (cs := [(.pointer (some ⟨g1, 0, none⟩)), (.pointer none), (.slice none 0 0), (.bool false)]) ze64 pl64 rfl rfl) rfl rfl rfl ?_
  refine wl_step (or_alloc (cs := [(.pointer none), (.pointer none), (.slice none 0 0), (.bool false)]) ze64 rfl) rfl rfl rfl ?_
  rintro v w3 ⟨g4, rfl, hb_g4, he4, hl4, hu4⟩
  replace hK := hK.ext he4
  replace hV := hV.ext he4
  replace hT := hT.ext he4
  replace hE := hE.tr he4
  replace hb_g1 := hb_g1.ext he4
  replace hb_g2 := hb_g2.ext he4
  have hz_he4 := he4.size
  refine wl_step0 (or_storeBlk (vs := [(.pointer (some ⟨g1, 0, none⟩)), (.pointer none), (.slice none 0 0), (.bool false)]) sz64 rfl rfl (by simp [Value.oneCell']) hb_g4 rfl) rfl rfl ?_
  rintro _ w4 ⟨hN4, hg4⟩
  have hz_hg4 := hg4.size
  replace hK := hK.gr hg4 (fun _ e => by cases e; omega)
  replace hV := hV.gr hg4 (fun _ e => by cases e; omega)
  replace hT := hT.gr hg4 (fun _ e => by cases e; omega)
  replace hE := hE.gr hg4 (fun _ e => by cases e; omega)
  replace hb_g1 := hb_g1.gr hg4 (by intro e; cases e; omega)
  replace hb_g2 := hb_g2.gr hg4 (by intro e; cases e; omega)
  replace hb_g4 := hN4
  refine q_nil (k_then (wc_seq (wc_regionL ?_)))
  refine wl_step (or_call0 cl31 rfl rfl (partsw _ g4 g1 hb_g4 cm K ck V cv T ct hb_g1 (by omega) _ _ hV (by omega) (by omega) _ _ hK (by omega) (by omega) _ _ hT (by omega) (by omega) hlf hvr hsz h1 h2)) rfl rfl rfl ?_
  rintro v w5 ⟨rfl, ⟨A20, c20, hN, ho20⟩, hgx⟩
  have hz_hgx := hgx.size
  replace hK := hK.gr hgx (fun _ e => by cases e; omega)
  replace hV := hV.gr hgx (fun _ e => by cases e; omega)
  replace hT := hT.gr hgx (fun _ e => by cases e; omega)
  replace hE := hE.gr hgx (fun _ e => by cases e; omega)
  replace hb_g1 := hb_g1.gr hgx (by intro e; cases e; omega)
  replace hb_g2 := hb_g2.gr hgx (by intro e; cases e; omega)
  replace hb_g4 := hN
  have hq_ho20 := fun g e => Own.lt ho20 (g := g) e
  refine q_nil (k_then (wc_seq (wc_regionL ?_)))
  refine wl_val (ov_field0 (off := 0) fo36_0 rfl) rfl rfl rfl ?_
  refine wl_val (ov_loadAt oc22 rfl hb_g1 rfl) rfl rfl rfl ?_
  refine wl_val (ov_conv Tryd.underlying22 Tryd.underlying5 rfl (wu8_op h1 h2)) rfl rfl rfl ?_
  refine wl_val (ov_field0 (off := 2) fo64_2 rfl) rfl rfl rfl ?_
  refine wl_val (ov_loadAt oc32 rfl hb_g4 rfl) rfl rfl rfl ?_
  refine wl_val (ov_build (cs := [(.int .u8 (↑(codeOf cm).toNat : Int)), (.slice A20 (wfold cm).1.length c20)]) ze40 pl40 rfl rfl) rfl rfl rfl ?_
  refine wl_step (or_alloc (cs := [(.int .u8 0), (.slice none 0 0)]) ze40 rfl) rfl rfl rfl ?_
  rintro v w6 ⟨g5, rfl, hb_g5, he5, hl5, hu5⟩
  replace hK := hK.ext he5
  replace hV := hV.ext he5
  replace hT := hT.ext he5
  replace hE := hE.tr he5
  replace hb_g1 := hb_g1.ext he5
  replace hb_g2 := hb_g2.ext he5
  replace hb_g4 := hb_g4.ext he5
  replace ho20 := Own.ext ho20 he5
  have hz_he5 := he5.size
  refine wl_step0 (or_storeBlk (vs := [(.int .u8 (↑(codeOf cm).toNat : Int)), (.slice A20 (wfold cm).1.length c20)]) sz40 rfl rfl (by simp [Value.oneCell']) hb_g5 rfl) rfl rfl ?_
  rintro _ w7 ⟨hN7, hg7⟩
  have hz_hg7 := hg7.size
  replace hK := hK.gr hg7 (fun _ e => by cases e; omega)
  replace hV := hV.gr hg7 (fun _ e => by cases e; omega)
  replace hT := hT.gr hg7 (fun _ e => by cases e; omega)
  replace hE := hE.gr hg7 (fun _ e => by cases e; omega)
  replace hb_g1 := hb_g1.gr hg7 (by intro e; cases e; omega)
  replace hb_g2 := hb_g2.gr hg7 (by intro e; cases e; omega)
  replace hb_g4 := hb_g4.gr hg7 (by intro e; cases e; omega)
  replace ho20 := Own.gr ho20 hg7 (by first | exact .inl rfl | (right; intro e; first | (have := hq_ho20 _ e; omega) | (have := Own.lt ho20 e; omega) | exact own_blk_ne ho20 hb_g5 (by decide) e))
  replace hb_g5 := hN7
  refine q_nil (k_then (wc_seq (wc_seq (wc_regionL ?_))))
  refine wl_val (ov_loadBlk (cs := [(.int .u8 (↑(codeOf cm).toNat : Int)), (.slice A20 (wfold cm).1.length c20)]) ag40_2 rfl hb_g5) rfl rfl rfl ?_
  refine wl_step (or_call0 cl24 rfl rfl (rread_any _ (codeOf cm) _ _ A20 c20 (wfold cm).1 (OwnB.rd ho20) (by first | omega | decide | (simp; done)))) rfl rfl rfl ?_
  rintro v w8 ⟨K29, ck29, V29, cv29, T29, ct29, rfl, hK29, hV29, hT29, he29⟩
  replace hK := hK.ext he29
  replace hV := hV.ext he29
  replace hT := hT.ext he29
  replace hE := hE.tr he29
  replace hb_g1 := hb_g1.ext he29
  replace hb_g2 := hb_g2.ext he29
  replace hb_g4 := hb_g4.ext he29
  replace ho20 := Own.ext ho20 he29
  replace hb_g5 := hb_g5.ext he29
  have hz_he29 := he29.size
  refine vm rfl rfl ?_
  iterate 2 refine vx rfl rfl rfl ?_
  refine wl_step (or_alloc (cs := [(.int .i64 0), (.string (strB [])), (.slice none 0 0), (.slice none 0 0), (.slice none 0 0), (.int .u64 0), (.int .u64 0), (.string (strB [])), (.string (strB [])), (.string (strB []))]) ze36 rfl) rfl rfl rfl ?_
  rintro v w9 ⟨g6, rfl, hb_g6, he6, hl6, hu6⟩
  replace hK := hK.ext he6
  replace hV := hV.ext he6
  replace hT := hT.ext he6
  replace hE := hE.tr he6
  replace hb_g1 := hb_g1.ext he6
  replace hb_g2 := hb_g2.ext he6
  replace hb_g4 := hb_g4.ext he6
  replace ho20 := Own.ext ho20 he6
  replace hb_g5 := hb_g5.ext he6
  replace hK29 := hK29.ext he6
  replace hV29 := hV29.ext he6
  replace hT29 := hT29.ext he6
  have hz_he6 := he6.size
  refine wl_step0 (or_storeBlk (vs := [(.int .i64 (rdC (codeOf cm) (wfold cm).1).1.op), (.string (strB (rdC (codeOf cm) (wfold cm).1).1.key)), (.slice K29 (rdC (codeOf cm) (wfold cm).1).1.keys.length ck29), (.slice V29 (rdC (codeOf cm) (wfold cm).1).1.value.length cv29), (.slice T29 (rdC (codeOf cm) (wfold cm).1).1.tags.length ct29), (.int .u64 (↑(rdC (codeOf cm) (wfold cm).1).1.life : Int)), (.int .u64 (↑(rdC (codeOf cm) (wfold cm).1).1.ver : Int)), (.string (strB (rdC (codeOf cm) (wfold cm).1).1.tag)), (.string (strB (rdC (codeOf cm) (wfold cm).1).1.pre)), (.string (strB (rdC (codeOf cm) (wfold cm).1).1.child))]) sz36 rfl rfl (by simp [Value.oneCell']) hb_g6 rfl) rfl rfl ?_
  rintro _ w10 ⟨hN10, hg10⟩
  have hz_hg10 := hg10.size
  replace hK := hK.gr hg10 (fun _ e => by cases e; omega)
  replace hV := hV.gr hg10 (fun _ e => by cases e; omega)
  replace hT := hT.gr hg10 (fun _ e => by cases e; omega)
  replace hE := hE.gr hg10 (fun _ e => by cases e; omega)
  replace hb_g1 := hb_g1.gr hg10 (by intro e; cases e; omega)
  replace hb_g2 := hb_g2.gr hg10 (by intro e; cases e; omega)
  replace hb_g4 := hb_g4.gr hg10 (by intro e; cases e; omega)
  replace ho20 := Own.gr ho20 hg10 (by first | exact .inl rfl | (right; intro e; first | (have := hq_ho20 _ e; omega) | (have := Own.lt ho20 e; omega) | exact own_blk_ne ho20 hb_g6 (by decide) e))
  replace hb_g5 := hb_g5.gr hg10 (by intro e; cases e; omega)
  replace hK29 := hK29.gr hg10 (fun _ e => by cases e; omega)
  replace hV29 := hV29.gr hg10 (fun _ e => by cases e; omega)
  replace hT29 := hT29.gr hg10 (fun _ e => by cases e; omega)
  replace hb_g6 := hN10
  refine va rfl rfl ?_
  refine q_nil (k_then (wc_seq (wc_regionL ?_)))
  refine wl_val (ov_field0 (off := 3) fo64_3 rfl) rfl rfl rfl ?_
  refine wl_val (ov_loadAt oc4 rfl hb_g4 rfl) rfl rfl rfl ?_
  refine wl_spell (d := 33) rfl (v' := (.bool false)) (by rw [h4]) ?_
  refine vm rfl rfl ?_
  refine wl_gval (ov_move rfl) rfl rfl rfl rfl rfl ?_
  refine wl_gval (ov_neq rfl rfl) rfl rfl rfl rfl rfl ?_
  refine wl_spell (d := 36) rfl (bt (by omega)) ?_
  refine wl_val (ov_pick_f rfl rfl) rfl rfl rfl ?_
  refine vm rfl rfl ?_
  iterate 4 refine wl_gskip rfl rfl rfl rfl rfl rfl ?_
  refine wl_val (ov_pick_t rfl rfl) rfl rfl rfl ?_
  refine q_nil (k_then ?_)
  refine wc_cond_t rfl ?_
  refine wc_seq (wc_regionL ?_)
  refine wl_val (ov_build (cs := [(.int .u8 0), (.slice none 0 0)]) ze40 pl40 rfl rfl) rfl rfl rfl ?_
  refine wl_step0 (or_storeBlk (vs := [(.int .u8 0), (.slice none 0 0)]) sz40 rfl rfl (by simp [Value.oneCell']) hb_g2 rfl) rfl rfl ?_
  rintro _ w11 ⟨hN11, hg11⟩
  have hz_hg11 := hg11.size
  replace hK := hK.gr hg11 (fun _ e => by cases e; omega)
  replace hV := hV.gr hg11 (fun _ e => by cases e; omega)
  replace hT := hT.gr hg11 (fun _ e => by cases e; omega)
  replace hE := hE.gr hg11 (fun _ e => by cases e; omega)
  replace hb_g1 := hb_g1.gr hg11 (by intro e; cases e; omega)
  replace hb_g4 := hb_g4.gr hg11 (by intro e; cases e; omega)
  replace ho20 := Own.gr ho20 hg11 (by first | exact .inl rfl | (right; intro e; first | (have := hq_ho20 _ e; omega) | (have := Own.lt ho20 e; omega) | exact own_blk_ne ho20 hb_g2 (by decide) e))
  replace hb_g5 := hb_g5.gr hg11 (by intro e; cases e; omega)
  replace hK29 := hK29.gr hg11 (fun _ e => by cases e; omega)
  replace hV29 := hV29.gr hg11 (fun _ e => by cases e; omega)
  replace hT29 := hT29.gr hg11 (fun _ e => by cases e; omega)
  replace hb_g6 := hb_g6.gr hg11 (by intro e; cases e; omega)
  replace hb_g2 := hN11
  refine va rfl rfl ?_
  refine q_nil (k_then (q_ret (k_thenR ?_)))
  refine e_retL (rs := [.cell 2 40, .tmp 3]) (vs := [.agg #[(.int .u8 0), (.slice none 0 0)], (.int .i64 2)]) rfl ⟨⟨_, _, [(.int .u8 0), (.slice none 0 0)], rfl, ag40_2, hb_g2, rfl⟩, rfl, trivial⟩ ?_
  exact ⟨none, 0, rfl, Own.nil_ _ _ _ _, hE⟩

theorem wwrite_ne (w : World) (cm : Cmd) (lo hi : Nat) (K : Option Addr) (ck : Nat) (V : Option Addr) (cv : Nat) (T : Option Addr) (ct : Nat) (hK : RdS w lo hi K ck cm.keys) (hV : RdB w lo hi V cv cm.value) (hT : RdS w lo hi T ct cm.tags) (hlf : cm.life < 18446744073709551616) (hvr : cm.ver < 18446744073709551616) (hsz : csz cm ≤ 17592186044416) (h1 : 1 ≤ cm.op) (h2 : cm.op ≤ 15) (h3 : cm.value.length ≤ 65536) (h4 : (wfold cm).2 = false) (h5 : (rdC (codeOf cm) (wfold cm).1).2 = 0) (h6 : ¬ (rdC (codeOf cm) (wfold cm).1).1 = cm) :
    Fn Tryd.prog 17 #[(.agg #[(.int .i64 cm.op), (.string (strB cm.key)), (.slice K cm.keys.length ck), (.slice V cm.value.length cv), (.slice T cm.tags.length ct), (.int .u64 (↑cm.life : Int)), (.int .u64 (↑cm.ver : Int)), (.string (strB cm.tag)), (.string (strB cm.pre)), (.string (strB cm.child))])] w (fun v w' => ∃ A c, v = .tuple #[.agg #[.int .u8 ((0 : Nat) : Int), .slice A ([] : List UInt8).length c], .int .i64 2] ∧ OwnB w' w.heap.size 5 A c ([] : List UInt8) ∧ Ext w w')  := by
  replace hK := hK.top
  replace hV := hV.top
  replace hT := hT.top
  have hE := ext_refl w
  have hwl := wfold_len cm
  refine fn_enter (args := [(.agg #[(.int .i64 cm.op), (.string (strB cm.key)), (.slice K cm.keys.length ck), (.slice V cm.value.length cv), (.slice T cm.tags.length ct), (.int .u64 (↑cm.life : Int)), (.int .u64 (↑cm.ver : Int)), (.string (strB cm.tag)), (.string (strB cm.pre)), (.string (strB cm.child))])]) Tryd.func17 rfl rfl rfl ?_
  show WC _ _ _ _ [(0, (.agg #[(.int .i64 cm.op), (.string (strB cm.key)), (.slice K cm.keys.length ck), (.slice V cm.value.length cv), (.slice T cm.tags.length ct), (.int .u64 (↑cm.life : Int)), (.int .u64 (↑cm.ver : Int)), (.string (strB cm.tag)), (.string (strB cm.pre)), (.string (strB cm.child))]))] _
  refine wc_seq (wc_regionL ?_)
  refine wl_step (or_box (cs := [(.int .i64 cm.op), (.string (strB cm.key)), (.slice K cm.keys.length ck), (.slice V cm.value.length cv), (.slice T cm.tags.length ct), (.int .u64 (↑cm.life : Int)), (.int .u64 (↑cm.ver : Int)), (.string (strB cm.tag)), (.string (strB cm.pre)), (.string (strB cm.child))]) rfl rfl) rfl rfl rfl ?_
  rintro v w1 ⟨g1, rfl, hb_g1, he1, hl1, hu1⟩
  replace hK := hK.ext he1
  replace hV := hV.ext he1
  replace hT := hT.ext he1
  replace hE := hE.tr he1
  have hz_he1 := he1.size
  refine wl_step (or_alloc (cs := [(.int .u8 0), (.slice none 0 0)]) ze40 rfl) rfl rfl rfl ?_
  rintro v w2 ⟨g2, rfl, hb_g2, he2, hl2, hu2⟩
  replace hK := hK.ext he2
  replace hV := hV.ext he2
  replace hT := hT.ext he2
  replace hE := hE.tr he2
  replace hb_g1 := hb_g1.ext he2
  have hz_he2 := he2.size
  refine va rfl rfl ?_
  refine q_nil (k_then (wc_seq (wc_seq (wc_regionL ?_))))
  refine wl_val (ov_field0 (off := 0) fo36_0 rfl) rfl rfl rfl ?_
  refine wl_val (ov_loadAt oc22 rfl hb_g1 rfl) rfl rfl rfl ?_
  refine wl_val (or_call0 cl27 rfl rfl (valid_any _ cm.op)) rfl rfl rfl ?_
  refine wl_spell (d := 10) rfl (bt (⟨h1, h2⟩)) ?_
  refine wl_val (ov_not (b := true) rfl) rfl rfl rfl ?_
  refine vm rfl rfl ?_
  refine wl_gval (ov_field0 (off := 3) fo36_3 rfl) rfl rfl rfl rfl rfl ?_
  refine wl_gval (ov_loadAt oc32 rfl hb_g1 rfl) rfl rfl rfl rfl rfl ?_
  refine wl_gval (ov_len Tryd.underlying32 rfl) rfl rfl rfl rfl rfl ?_
  refine wl_gval (ov_gtr rfl rfl) rfl rfl rfl rfl rfl ?_
  refine wl_spell (d := 16) rfl (bf (by omega)) ?_
  refine wl_val (ov_pick_f rfl rfl) rfl rfl rfl ?_
  refine q_nil (k_then ?_)
  refine wc_cond_f rfl ?_
  refine q_skip (k_then (wc_seq (wc_regionL ?_)))
  refine wl_val (ov_build (cs := [(.pointer (some ⟨g1, 0, none⟩)), (.pointer none), (.slice none 0 0), (.bool false)]) ze64 pl64 rfl rfl) rfl rfl rfl ?_
  refine wl_step (or_alloc (cs := [(.pointer none), (.pointer none), (.slice none 0 0), (.bool false)]) ze64 rfl) rfl rfl rfl ?_
  rintro v w3 ⟨g4, rfl, hb_g4, he4, hl4, hu4⟩
  replace hK := hK.ext he4
  replace hV := hV.ext he4
  replace hT := hT.ext he4
  replace hE := hE.tr he4
  replace hb_g1 := hb_g1.ext he4
  replace hb_g2 := hb_g2.ext he4
  have hz_he4 := he4.size
  refine wl_step0 (or_storeBlk (vs := [(.pointer (some ⟨g1, 0, none⟩)), (.pointer none), (.slice none 0 0), (.bool false)]) sz64 rfl rfl (by simp [Value.oneCell']) hb_g4 rfl) rfl rfl ?_
  rintro _ w4 ⟨hN4, hg4⟩
  have hz_hg4 := hg4.size
  replace hK := hK.gr hg4 (fun _ e => by cases e; omega)
  replace hV := hV.gr hg4 (fun _ e => by cases e; omega)
  replace hT := hT.gr hg4 (fun _ e => by cases e; omega)
  replace hE := hE.gr hg4 (fun _ e => by cases e; omega)
  replace hb_g1 := hb_g1.gr hg4 (by intro e; cases e; omega)
  replace hb_g2 := hb_g2.gr hg4 (by intro e; cases e; omega)
  replace hb_g4 := hN4
  refine q_nil (k_then (wc_seq (wc_regionL ?_)))
  refine wl_step (or_call0 cl31 rfl rfl (partsw _ g4 g1 hb_g4 cm K ck V cv T ct hb_g1 (by omega) _ _ hV (by omega) (by omega) _ _ hK (by omega) (by omega) _ _ hT (by omega) (by omega) hlf hvr hsz h1 h2)) rfl rfl rfl ?_
  rintro v w5 ⟨rfl, ⟨A20, c20, hN, ho20⟩, hgx⟩
  have hz_hgx := hgx.size
  replace hK := hK.gr hgx (fun _ e => by cases e; omega)
  replace hV := hV.gr hgx (fun _ e => by cases e; omega)
  replace hT := hT.gr hgx (fun _ e => by cases e; omega)
  replace hE := hE.gr hgx (fun _ e => by cases e; omega)
  replace hb_g1 := hb_g1.gr hgx (by intro e; cases e; omega)
  replace hb_g2 := hb_g2.gr hgx (by intro e; cases e; omega)
  replace hb_g4 := hN
  have hq_ho20 := fun g e => Own.lt ho20 (g := g) e
  refine q_nil (k_then (wc_seq (wc_regionL ?_)))
  refine wl_val (ov_field0 (off := 0) fo36_0 rfl) rfl rfl rfl ?_
  refine wl_val (ov_loadAt oc22 rfl hb_g1 rfl) rfl rfl rfl ?_
  refine wl_val (ov_conv Tryd.underlying22 Tryd.underlying5 rfl (wu8_op h1 h2)) rfl rfl rfl ?_
  refine wl_val (ov_field0 (off := 2) fo64_2 rfl) rfl rfl rfl ?_
  refine wl_val (ov_loadAt oc32 rfl hb_g4 rfl) rfl rfl rfl ?_
  refine wl_val (ov_build (cs := [(.int .u8 (↑(codeOf cm).toNat : Int)), (.slice A20 (wfold cm).1.length c20)]) ze40 pl40 rfl rfl) rfl rfl rfl ?_
  refine wl_step (or_alloc (cs := [(.int .u8 0), (.slice none 0 0)]) ze40 rfl) rfl rfl rfl ?_
  rintro v w6 ⟨g5, rfl, hb_g5, he5, hl5, hu5⟩
  replace hK := hK.ext he5
  replace hV := hV.ext he5
  replace hT := hT.ext he5
  replace hE := hE.tr he5
  replace hb_g1 := hb_g1.ext he5
  replace hb_g2 := hb_g2.ext he5
  replace hb_g4 := hb_g4.ext he5
  replace ho20 := Own.ext ho20 he5
  have hz_he5 := he5.size
  refine wl_step0 (or_storeBlk (vs := [(.int .u8 (↑(codeOf cm).toNat : Int)), (.slice A20 (wfold cm).1.length c20)]) sz40 rfl rfl (by simp [Value.oneCell']) hb_g5 rfl) rfl rfl ?_
  rintro _ w7 ⟨hN7, hg7⟩
  have hz_hg7 := hg7.size
  replace hK := hK.gr hg7 (fun _ e => by cases e; omega)
  replace hV := hV.gr hg7 (fun _ e => by cases e; omega)
  replace hT := hT.gr hg7 (fun _ e => by cases e; omega)
  replace hE := hE.gr hg7 (fun _ e => by cases e; omega)
  replace hb_g1 := hb_g1.gr hg7 (by intro e; cases e; omega)
  replace hb_g2 := hb_g2.gr hg7 (by intro e; cases e; omega)
  replace hb_g4 := hb_g4.gr hg7 (by intro e; cases e; omega)
  replace ho20 := Own.gr ho20 hg7 (by first | exact .inl rfl | (right; intro e; first | (have := hq_ho20 _ e; omega) | (have := Own.lt ho20 e; omega) | exact own_blk_ne ho20 hb_g5 (by decide) e))
  replace hb_g5 := hN7
  refine q_nil (k_then (wc_seq (wc_seq (wc_regionL ?_))))
  refine wl_val (ov_loadBlk (cs := [(.int .u8 (↑(codeOf cm).toNat : Int)), (.slice A20 (wfold cm).1.length c20)]) ag40_2 rfl hb_g5) rfl rfl rfl ?_
  refine wl_step (or_call0 cl24 rfl rfl (rread_any _ (codeOf cm) _ _ A20 c20 (wfold cm).1 (OwnB.rd ho20) (by first | omega | decide | (simp; done)))) rfl rfl rfl ?_
  rintro v w8 ⟨K29, ck29, V29, cv29, T29, ct29, rfl, hK29, hV29, hT29, he29⟩
  replace hK := hK.ext he29
  replace hV := hV.ext he29
  replace hT := hT.ext he29
  replace hE := hE.tr he29
  replace hb_g1 := hb_g1.ext he29
  replace hb_g2 := hb_g2.ext he29
  replace hb_g4 := hb_g4.ext he29
  replace ho20 := Own.ext ho20 he29
  replace hb_g5 := hb_g5.ext he29
  have hz_he29 := he29.size
  refine vm rfl rfl ?_
  iterate 2 refine vx rfl rfl rfl ?_
  refine wl_step (or_alloc (cs := [(.int .i64 0), (.string (strB [])), (.slice none 0 0), (.slice none 0 0), (.slice none 0 0), (.int .u64 0), (.int .u64 0), (.string (strB [])), (.string (strB [])), (.string (strB []))]) ze36 rfl) rfl rfl rfl ?_
  rintro v w9 ⟨g6, rfl, hb_g6, he6, hl6, hu6⟩
  replace hK := hK.ext he6
  replace hV := hV.ext he6
  replace hT := hT.ext he6
  replace hE := hE.tr he6
  replace hb_g1 := hb_g1.ext he6
  replace hb_g2 := hb_g2.ext he6
  replace hb_g4 := hb_g4.ext he6
  replace ho20 := Own.ext ho20 he6
  replace hb_g5 := hb_g5.ext he6
  replace hK29 := hK29.ext he6
  replace hV29 := hV29.ext he6
  replace hT29 := hT29.ext he6
  have hz_he6 := he6.size
  refine wl_step0 (or_storeBlk (vs := [(.int .i64 (rdC (codeOf cm) (wfold cm).1).1.op), (.string (strB (rdC (codeOf cm) (wfold cm).1).1.key)), (.slice K29 (rdC (codeOf cm) (wfold cm).1).1.keys.length ck29), (.slice V29 (rdC (codeOf cm) (wfold cm).1).1.value.length cv29), (.slice T29 (rdC (codeOf cm) (wfold cm).1).1.tags.length ct29), (.int .u64 (↑(rdC (codeOf cm) (wfold cm).1).1.life : Int)), (.int .u64 (↑(rdC (codeOf cm) (wfold cm).1).1.ver : Int)), (.string (strB (rdC (codeOf cm) (wfold cm).1).1.tag)), (.string (strB (rdC (codeOf cm) (wfold cm).1).1.pre)), (.string (strB (rdC (codeOf cm) (wfold cm).1).1.child))]) sz36 rfl rfl (by simp [Value.oneCell']) hb_g6 rfl) rfl rfl ?_
  rintro _ w10 ⟨hN10, hg10⟩
  have hz_hg10 := hg10.size
  replace hK := hK.gr hg10 (fun _ e => by cases e; omega)
  replace hV := hV.gr hg10 (fun _ e => by cases e; omega)
  replace hT := hT.gr hg10 (fun _ e => by cases e; omega)
  replace hE := hE.gr hg10 (fun _ e => by cases e; omega)
  replace hb_g1 := hb_g1.gr hg10 (by intro e; cases e; omega)
  replace hb_g2 := hb_g2.gr hg10 (by intro e; cases e; omega)
  replace hb_g4 := hb_g4.gr hg10 (by intro e; cases e; omega)
  replace ho20 := Own.gr ho20 hg10 (by first | exact .inl rfl | (right; intro e; first | (have := hq_ho20 _ e; omega) | (have := Own.lt ho20 e; omega) | exact own_blk_ne ho20 hb_g6 (by decide) e))
  replace hb_g5 := hb_g5.gr hg10 (by intro e; cases e; omega)
  replace hK29 := hK29.gr hg10 (fun _ e => by cases e; omega)
  replace hV29 := hV29.gr hg10 (fun _ e => by cases e; omega)
  replace hT29 := hT29.gr hg10 (fun _ e => by cases e; omega)
  replace hb_g6 := hN10
  refine va rfl rfl ?_
  refine q_nil (k_then (wc_seq (wc_regionL ?_)))
  refine wl_val (ov_field0 (off := 3) fo64_3 rfl) rfl rfl rfl ?_
  refine wl_val (ov_loadAt oc4 rfl hb_g4 rfl) rfl rfl rfl ?_
  refine wl_spell (d := 33) rfl (v' := (.bool false)) (by rw [h4]) ?_
  refine vm rfl rfl ?_
  refine wl_gval (ov_move rfl) rfl rfl rfl rfl rfl ?_
  refine wl_gval (ov_neq rfl rfl) rfl rfl rfl rfl rfl ?_
  refine wl_spell (d := 36) rfl (bf (by omega)) ?_
  refine wl_val (ov_pick_f rfl rfl) rfl rfl rfl ?_
  refine vm rfl rfl ?_
  refine wl_gval (ov_loadBlk (cs := [(.int .i64 (rdC (codeOf cm) (wfold cm).1).1.op), (.string (strB (rdC (codeOf cm) (wfold cm).1).1.key)), (.slice K29 (rdC (codeOf cm) (wfold cm).1).1.keys.length ck29), (.slice V29 (rdC (codeOf cm) (wfold cm).1).1.value.length cv29), (.slice T29 (rdC (codeOf cm) (wfold cm).1).1.tags.length ct29), (.int .u64 (↑(rdC (codeOf cm) (wfold cm).1).1.life : Int)), (.int .u64 (↑(rdC (codeOf cm) (wfold cm).1).1.ver : Int)), (.string (strB (rdC (codeOf cm) (wfold cm).1).1.tag)), (.string (strB (rdC (codeOf cm) (wfold cm).1).1.pre)), (.string (strB (rdC (codeOf cm) (wfold cm).1).1.child))]) ag36_10 rfl hb_g6) rfl rfl rfl rfl rfl ?_
  refine wl_gval (ov_loadBlk (cs := [(.int .i64 cm.op), (.string (strB cm.key)), (.slice K cm.keys.length ck), (.slice V cm.value.length cv), (.slice T cm.tags.length ct), (.int .u64 (↑cm.life : Int)), (.int .u64 (↑cm.ver : Int)), (.string (strB cm.tag)), (.string (strB cm.pre)), (.string (strB cm.child))]) ag36_10 rfl hb_g1) rfl rfl rfl rfl rfl ?_
  refine wl_gstep (or_call0 cl26 rfl rfl (equal_any _ (rdC (codeOf cm) (wfold cm).1).1 _ _ K29 ck29 V29 cv29 T29 ct29 hK29 hV29 hT29 cm _ _ K ck V cv T ct hK hV hT)) rfl rfl rfl rfl rfl ?_
  rintro v w11 ⟨rfl, he41⟩
  replace hK := hK.ext he41
  replace hV := hV.ext he41
  replace hT := hT.ext he41
  replace hE := hE.tr he41
  replace hb_g1 := hb_g1.ext he41
  replace hb_g2 := hb_g2.ext he41
  replace hb_g4 := hb_g4.ext he41
  replace ho20 := Own.ext ho20 he41
  replace hb_g5 := hb_g5.ext he41
  replace hK29 := hK29.ext he41
  replace hV29 := hV29.ext he41
  replace hT29 := hT29.ext he41
  replace hb_g6 := hb_g6.ext he41
  have hz_he41 := he41.size
  refine wl_spell (d := 41) rfl (bf (h6)) ?_
  refine wl_gval (ov_not (b := false) rfl) rfl rfl rfl rfl rfl ?_
  refine wl_val (ov_pick_f rfl rfl) rfl rfl rfl ?_
  refine q_nil (k_then ?_)
  refine wc_cond_t rfl ?_
  refine wc_seq (wc_regionL ?_)
  refine wl_val (ov_build (cs := [(.int .u8 0), (.slice none 0 0)]) ze40 pl40 rfl rfl) rfl rfl rfl ?_
  refine wl_step0 (or_storeBlk (vs := [(.int .u8 0), (.slice none 0 0)]) sz40 rfl rfl (by simp [Value.oneCell']) hb_g2 rfl) rfl rfl ?_
  rintro _ w12 ⟨hN12, hg12⟩
  have hz_hg12 := hg12.size
  replace hK := hK.gr hg12 (fun _ e => by cases e; omega)
  replace hV := hV.gr hg12 (fun _ e => by cases e; omega)
  replace hT := hT.gr hg12 (fun _ e => by cases e; omega)
  replace hE := hE.gr hg12 (fun _ e => by cases e; omega)
  replace hb_g1 := hb_g1.gr hg12 (by intro e; cases e; omega)
  replace hb_g4 := hb_g4.gr hg12 (by intro e; cases e; omega)
  replace ho20 := Own.gr ho20 hg12 (by first | exact .inl rfl | (right; intro e; first | (have := hq_ho20 _ e; omega) | (have := Own.lt ho20 e; omega) | exact own_blk_ne ho20 hb_g2 (by decide) e))
  replace hb_g5 := hb_g5.gr hg12 (by intro e; cases e; omega)
  replace hK29 := hK29.gr hg12 (fun _ e => by cases e; omega)
  replace hV29 := hV29.gr hg12 (fun _ e => by cases e; omega)
  replace hT29 := hT29.gr hg12 (fun _ e => by cases e; omega)
  replace hb_g6 := hb_g6.gr hg12 (by intro e; cases e; omega)
  replace hb_g2 := hN12
  refine va rfl rfl ?_
  refine q_nil (k_then (q_ret (k_thenR ?_)))
  refine e_retL (rs := [.cell 2 40, .tmp 3]) (vs := [.agg #[(.int .u8 0), (.slice none 0 0)], (.int .i64 2)]) rfl ⟨⟨_, _, [(.int .u8 0), (.slice none 0 0)], rfl, ag40_2, hb_g2, rfl⟩, rfl, trivial⟩ ?_
  exact ⟨none, 0, rfl, Own.nil_ _ _ _ _, hE⟩

theorem wwrite_ok (w : World) (cm : Cmd) (lo hi : Nat) (K : Option Addr) (ck : Nat) (V : Option Addr) (cv : Nat) (T : Option Addr) (ct : Nat) (hK : RdS w lo hi K ck cm.keys) (hV : RdB w lo hi V cv cm.value) (hT : RdS w lo hi T ct cm.tags) (hlf : cm.life < 18446744073709551616) (hvr : cm.ver < 18446744073709551616) (hsz : csz cm ≤ 17592186044416) (h1 : 1 ≤ cm.op) (h2 : cm.op ≤ 15) (h3 : cm.value.length ≤ 65536) (h4 : (wfold cm).2 = false) (h5 : (rdC (codeOf cm) (wfold cm).1).2 = 0) (h6 : (rdC (codeOf cm) (wfold cm).1).1 = cm) :
    Fn Tryd.prog 17 #[(.agg #[(.int .i64 cm.op), (.string (strB cm.key)), (.slice K cm.keys.length ck), (.slice V cm.value.length cv), (.slice T cm.tags.length ct), (.int .u64 (↑cm.life : Int)), (.int .u64 (↑cm.ver : Int)), (.string (strB cm.tag)), (.string (strB cm.pre)), (.string (strB cm.child))])] w (fun v w' => ∃ A c, v = .tuple #[.agg #[.int .u8 ((↑(codeOf cm).toNat : Int) : Int), .slice A ((wfold cm).1).length c], .int .i64 0] ∧ OwnB w' w.heap.size 5 A c ((wfold cm).1) ∧ Ext w w')  := by
  replace hK := hK.top
  replace hV := hV.top
  replace hT := hT.top
  have hE := ext_refl w
  have hwl := wfold_len cm
  refine fn_enter (args := [(.agg #[(.int .i64 cm.op), (.string (strB cm.key)), (.slice K cm.keys.length ck), (.slice V cm.value.length cv), (.slice T cm.tags.length ct), (.int .u64 (↑cm.life : Int)), (.int .u64 (↑cm.ver : Int)), (.string (strB cm.tag)), (.string (strB cm.pre)), (.string (strB cm.child))])]) Tryd.func17 rfl rfl rfl ?_
  show WC _ _ _ _ [(0, (.agg #[(.int .i64 cm.op), (.string (strB cm.key)), (.slice K cm.keys.length ck), (.slice V cm.value.length cv), (.slice T cm.tags.length ct), (.int .u64 (↑cm.life : Int)), (.int .u64 (↑cm.ver : Int)), (.string (strB cm.tag)), (.string (strB cm.pre)), (.string (strB cm.child))]))] _
  refine wc_seq (wc_regionL ?_)
  refine wl_step (or_box (cs := [(.int .i64 cm.op), (.string (strB cm.key)), (.slice K cm.keys.length ck), (.slice V cm.value.length cv), (.slice T cm.tags.length ct), (.int .u64 (↑cm.life : Int)), (.int .u64 (↑cm.ver : Int)), (.string (strB cm.tag)), (.string (strB cm.pre)), (.string (strB cm.child))]) rfl rfl) rfl rfl rfl ?_
  rintro v w1 ⟨g1, rfl, hb_g1, he1, hl1, hu1⟩
  replace hK := hK.ext he1
  replace hV := hV.ext he1
  replace hT := hT.ext he1
  replace hE := hE.tr he1
  have hz_he1 := he1.size
  refine wl_step (or_alloc (cs := [(.int .u8 0), (.slice none 0 0)]) ze40 rfl) rfl rfl rfl ?_
  rintro v w2 ⟨g2, rfl, hb_g2, he2, hl2, hu2⟩
  replace hK := hK.ext he2
  replace hV := hV.ext he2
  replace hT := hT.ext he2
  replace hE := hE.tr he2
  replace hb_g1 := hb_g1.ext he2
  have hz_he2 := he2.size
  refine va rfl rfl ?_
  refine q_nil (k_then (wc_seq (wc_seq (wc_regionL ?_))))
  refine wl_val (ov_field0 (off := 0) fo36_0 rfl) rfl rfl rfl ?_
  refine wl_val (ov_loadAt oc22 rfl hb_g1 rfl) rfl rfl rfl ?_
  refine wl_val (or_call0 cl27 rfl rfl (valid_any _ cm.op)) rfl rfl rfl ?_
  refine wl_spell (d := 10) rfl (bt (⟨h1, h2⟩)) ?_
  refine wl_val (ov_not (b := true) rfl) rfl rfl rfl ?_
  refine vm rfl rfl ?_
  refine wl_gval (ov_field0 (off := 3) fo36_3 rfl) rfl rfl rfl rfl rfl ?_
  refine wl_gval (ov_loadAt oc32 rfl hb_g1 rfl) rfl rfl rfl rfl rfl ?_
  refine wl_gval (ov_len Tryd.underlying32 rfl) rfl rfl rfl rfl rfl ?_
  refine wl_gval (ov_gtr rfl rfl) rfl rfl rfl rfl rfl ?_
  refine wl_spell (d := 16) rfl (bf (by omega)) ?_
  refine wl_val (ov_pick_f rfl rfl) rfl rfl rfl ?_
  refine q_nil (k_then ?_)
  refine wc_cond_f rfl ?_
  refine q_skip (k_then (wc_seq (wc_regionL ?_)))
  refine wl_val (ov_build (cs := [(.pointer (some ⟨g1, 0, none⟩)), (.pointer none), (.slice none 0 0), (.bool false)]) ze64 pl64 rfl rfl) rfl rfl rfl ?_
  refine wl_step (or_alloc (cs := [(.pointer none), (.pointer none), (.slice none 0 0), (.bool false)]) ze64 rfl) rfl rfl rfl ?_
  rintro v w3 ⟨g4, rfl, hb_g4, he4, hl4, hu4⟩
  replace hK := hK.ext he4
  replace hV := hV.ext he4
  replace hT := hT.ext he4
  replace hE := hE.tr he4
  replace hb_g1 := hb_g1.ext he4
  replace hb_g2 := hb_g2.ext he4
  have hz_he4 := he4.size
  refine wl_step0 (or_storeBlk (vs := [(.pointer (some ⟨g1, 0, none⟩)), (.pointer none), (.slice none 0 0), (.bool false)]) sz64 rfl rfl (by simp [Value.oneCell']) hb_g4 rfl) rfl rfl ?_
  rintro _ w4 ⟨hN4, hg4⟩
  have hz_hg4 := hg4.size
  replace hK := hK.gr hg4 (fun _ e => by cases e; omega)
  replace hV := hV.gr hg4 (fun _ e => by cases e; omega)
  replace hT := hT.gr hg4 (fun _ e => by cases e; omega)
  replace hE := hE.gr hg4 (fun _ e => by cases e; omega)
  replace hb_g1 := hb_g1.gr hg4 (by intro e; cases e; omega)
  replace hb_g2 := hb_g2.gr hg4 (by intro e; cases e; omega)
  replace hb_g4 := hN4
  refine q_nil (k_then (wc_seq (wc_regionL ?_)))
  refine wl_step (or_call0 cl31 rfl rfl (partsw _ g4 g1 hb_g4 cm K ck V cv T ct hb_g1 (by omega) _ _ hV (by omega) (by omega) _ _ hK (by omega) (by omega) _ _ hT (by omega) (by omega) hlf hvr hsz h1 h2)) rfl rfl rfl ?_
  rintro v w5 ⟨rfl, ⟨A20, c20, hN, ho20⟩, hgx⟩
  have hz_hgx := hgx.size
  replace hK := hK.gr hgx (fun _ e => by cases e; omega)
  replace hV := hV.gr hgx (fun _ e => by cases e; omega)
  replace hT := hT.gr hgx (fun _ e => by cases e; omega)
  replace hE := hE.gr hgx (fun _ e => by cases e; omega)
  replace hb_g1 := hb_g1.gr hgx (by intro e; cases e; omega)
  replace hb_g2 := hb_g2.gr hgx (by intro e; cases e; omega)
  replace hb_g4 := hN
  have hq_ho20 := fun g e => Own.lt ho20 (g := g) e
  refine q_nil (k_then (wc_seq (wc_regionL ?_)))
  refine wl_val (ov_field0 (off := 0) fo36_0 rfl) rfl rfl rfl ?_
  refine wl_val (ov_loadAt oc22 rfl hb_g1 rfl) rfl rfl rfl ?_
  refine wl_val (ov_conv Tryd.underlying22 Tryd.underlying5 rfl (wu8_op h1 h2)) rfl rfl rfl ?_
  refine wl_val (ov_field0 (off := 2) fo64_2 rfl) rfl rfl rfl ?_
  refine wl_val (ov_loadAt oc32 rfl hb_g4 rfl) rfl rfl rfl ?_
  refine wl_val (ov_build (cs := [(.int .u8 (↑(codeOf cm).toNat : Int)), (.slice A20 (wfold cm).1.length c20)]) ze40 pl40 rfl rfl) rfl rfl rfl ?_
  refine wl_step (or_alloc (cs := [(.int .u8 0), (.slice none 0 0)]) ze40 rfl) rfl rfl rfl ?_
  rintro v w6 ⟨g5, rfl, hb_g5, he5, hl5, hu5⟩
  replace hK := hK.ext he5
  replace hV := hV.ext he5
  replace hT := hT.ext he5
  replace hE := hE.tr he5
  replace hb_g1 := hb_g1.ext he5
  replace hb_g2 := hb_g2.ext he5
  replace hb_g4 := hb_g4.ext he5
  replace ho20 := Own.ext ho20 he5
  have hz_he5 := he5.size
  refine wl_step0 (or_storeBlk (vs := [(.int .u8 (↑(codeOf cm).toNat : Int)), (.slice A20 (wfold cm).1.length c20)]) sz40 rfl rfl (by simp [Value.oneCell']) hb_g5 rfl) rfl rfl ?_
  rintro _ w7 ⟨hN7, hg7⟩
  have hz_hg7 := hg7.size
  replace hK := hK.gr hg7 (fun _ e => by cases e; omega)
  replace hV := hV.gr hg7 (fun _ e => by cases e; omega)
  replace hT := hT.gr hg7 (fun _ e => by cases e; omega)
  replace hE := hE.gr hg7 (fun _ e => by cases e; omega)
  replace hb_g1 := hb_g1.gr hg7 (by intro e; cases e; omega)
  replace hb_g2 := hb_g2.gr hg7 (by intro e; cases e; omega)
  replace hb_g4 := hb_g4.gr hg7 (by intro e; cases e; omega)
  replace ho20 := Own.gr ho20 hg7 (by first | exact .inl rfl | (right; intro e; first | (have := hq_ho20 _ e; omega) | (have := Own.lt ho20 e; omega) | exact own_blk_ne ho20 hb_g5 (by decide) e))
  replace hb_g5 := hN7
  refine q_nil (k_then (wc_seq (wc_seq (wc_regionL ?_))))
  refine wl_val (ov_loadBlk (cs := [(.int .u8 (↑(codeOf cm).toNat : Int)), (.slice A20 (wfold cm).1.length c20)]) ag40_2 rfl hb_g5) rfl rfl rfl ?_
  refine wl_step (or_call0 cl24 rfl rfl (rread_any _ (codeOf cm) _ _ A20 c20 (wfold cm).1 (OwnB.rd ho20) (by first | omega | decide | (simp; done)))) rfl rfl rfl ?_
  rintro v w8 ⟨K29, ck29, V29, cv29, T29, ct29, rfl, hK29, hV29, hT29, he29⟩
  replace hK := hK.ext he29
  replace hV := hV.ext he29
  replace hT := hT.ext he29
  replace hE := hE.tr he29
  replace hb_g1 := hb_g1.ext he29
  replace hb_g2 := hb_g2.ext he29
  replace hb_g4 := hb_g4.ext he29
  replace ho20 := Own.ext ho20 he29
  replace hb_g5 := hb_g5.ext he29
  have hz_he29 := he29.size
  refine vm rfl rfl ?_
  iterate 2 refine vx rfl rfl rfl ?_
  refine wl_step (or_alloc (cs := [(.int .i64 0), (.string (strB [])), (.slice none 0 0), (.slice none 0 0), (.slice none 0 0), (.int .u64 0), (.int .u64 0), (.string (strB [])), (.string (strB [])), (.string (strB []))]) ze36 rfl) rfl rfl rfl ?_
  rintro v w9 ⟨g6, rfl, hb_g6, he6, hl6, hu6⟩
  replace hK := hK.ext he6
  replace hV := hV.ext he6
  replace hT := hT.ext he6
  replace hE := hE.tr he6
  replace hb_g1 := hb_g1.ext he6
  replace hb_g2 := hb_g2.ext he6
  replace hb_g4 := hb_g4.ext he6
  replace ho20 := Own.ext ho20 he6
  replace hb_g5 := hb_g5.ext he6
  replace hK29 := hK29.ext he6
  replace hV29 := hV29.ext he6
  replace hT29 := hT29.ext he6
  have hz_he6 := he6.size
  refine wl_step0 (or_storeBlk (vs := [(.int .i64 (rdC (codeOf cm) (wfold cm).1).1.op), (.string (strB (rdC (codeOf cm) (wfold cm).1).1.key)), (.slice K29 (rdC (codeOf cm) (wfold cm).1).1.keys.length ck29), (.slice V29 (rdC (codeOf cm) (wfold cm).1).1.value.length cv29), (.slice T29 (rdC (codeOf cm) (wfold cm).1).1.tags.length ct29), (.int .u64 (↑(rdC (codeOf cm) (wfold cm).1).1.life : Int)), (.int .u64 (↑(rdC (codeOf cm) (wfold cm).1).1.ver : Int)), (.string (strB (rdC (codeOf cm) (wfold cm).1).1.tag)), (.string (strB (rdC (codeOf cm) (wfold cm).1).1.pre)), (.string (strB (rdC (codeOf cm) (wfold cm).1).1.child))]) sz36 rfl rfl (by simp [Value.oneCell']) hb_g6 rfl) rfl rfl ?_
  rintro _ w10 ⟨hN10, hg10⟩
  have hz_hg10 := hg10.size
  replace hK := hK.gr hg10 (fun _ e => by cases e; omega)
  replace hV := hV.gr hg10 (fun _ e => by cases e; omega)
  replace hT := hT.gr hg10 (fun _ e => by cases e; omega)
  replace hE := hE.gr hg10 (fun _ e => by cases e; omega)
  replace hb_g1 := hb_g1.gr hg10 (by intro e; cases e; omega)
  replace hb_g2 := hb_g2.gr hg10 (by intro e; cases e; omega)
  replace hb_g4 := hb_g4.gr hg10 (by intro e; cases e; omega)
  replace ho20 := Own.gr ho20 hg10 (by first | exact .inl rfl | (right; intro e; first | (have := hq_ho20 _ e; omega) | (have := Own.lt ho20 e; omega) | exact own_blk_ne ho20 hb_g6 (by decide) e))
  replace hb_g5 := hb_g5.gr hg10 (by intro e; cases e; omega)
  replace hK29 := hK29.gr hg10 (fun _ e => by cases e; omega)
  replace hV29 := hV29.gr hg10 (fun _ e => by cases e; omega)
  replace hT29 := hT29.gr hg10 (fun _ e => by cases e; omega)
  replace hb_g6 := hN10
  refine va rfl rfl ?_
  refine q_nil (k_then (wc_seq (wc_regionL ?_)))
  refine wl_val (ov_field0 (off := 3) fo64_3 rfl) rfl rfl rfl ?_
  refine wl_val (ov_loadAt oc4 rfl hb_g4 rfl) rfl rfl rfl ?_
  refine wl_spell (d := 33) rfl (v' := (.bool false)) (by rw [h4]) ?_
  refine vm rfl rfl ?_
  refine wl_gval (ov_move rfl) rfl rfl rfl rfl rfl ?_
  refine wl_gval (ov_neq rfl rfl) rfl rfl rfl rfl rfl ?_
  refine wl_spell (d := 36) rfl (bf (by omega)) ?_
  refine wl_val (ov_pick_f rfl rfl) rfl rfl rfl ?_
  refine vm rfl rfl ?_
  refine wl_gval (ov_loadBlk (cs := [(.int .i64 (rdC (codeOf cm) (wfold cm).1).1.op), (.string (strB (rdC (codeOf cm) (wfold cm).1).1.key)), (.slice K29 (rdC (codeOf cm) (wfold cm).1).1.keys.length ck29), (.slice V29 (rdC (codeOf cm) (wfold cm).1).1.value.length cv29), (.slice T29 (rdC (codeOf cm) (wfold cm).1).1.tags.length ct29), (.int .u64 (↑(rdC (codeOf cm) (wfold cm).1).1.life : Int)), (.int .u64 (↑(rdC (codeOf cm) (wfold cm).1).1.ver : Int)), (.string (strB (rdC (codeOf cm) (wfold cm).1).1.tag)), (.string (strB (rdC (codeOf cm) (wfold cm).1).1.pre)), (.string (strB (rdC (codeOf cm) (wfold cm).1).1.child))]) ag36_10 rfl hb_g6) rfl rfl rfl rfl rfl ?_
  refine wl_gval (ov_loadBlk (cs := [(.int .i64 cm.op), (.string (strB cm.key)), (.slice K cm.keys.length ck), (.slice V cm.value.length cv), (.slice T cm.tags.length ct), (.int .u64 (↑cm.life : Int)), (.int .u64 (↑cm.ver : Int)), (.string (strB cm.tag)), (.string (strB cm.pre)), (.string (strB cm.child))]) ag36_10 rfl hb_g1) rfl rfl rfl rfl rfl ?_
  refine wl_gstep (or_call0 cl26 rfl rfl (equal_any _ (rdC (codeOf cm) (wfold cm).1).1 _ _ K29 ck29 V29 cv29 T29 ct29 hK29 hV29 hT29 cm _ _ K ck V cv T ct hK hV hT)) rfl rfl rfl rfl rfl ?_
  rintro v w11 ⟨rfl, he41⟩
  replace hK := hK.ext he41
  replace hV := hV.ext he41
  replace hT := hT.ext he41
  replace hE := hE.tr he41
  replace hb_g1 := hb_g1.ext he41
  replace hb_g2 := hb_g2.ext he41
  replace hb_g4 := hb_g4.ext he41
  replace ho20 := Own.ext ho20 he41
  replace hb_g5 := hb_g5.ext he41
  replace hK29 := hK29.ext he41
  replace hV29 := hV29.ext he41
  replace hT29 := hT29.ext he41
  replace hb_g6 := hb_g6.ext he41
  have hz_he41 := he41.size
  refine wl_spell (d := 41) rfl (bt (h6)) ?_
  refine wl_gval (ov_not (b := true) rfl) rfl rfl rfl rfl rfl ?_
  refine wl_val (ov_pick_f rfl rfl) rfl rfl rfl ?_
  refine q_nil (k_then ?_)
  refine wc_cond_f rfl ?_
  refine q_skip (k_then (wc_seq (wc_regionL ?_)))
  refine wl_val (ov_loadBlk (cs := [(.int .u8 (↑(codeOf cm).toNat : Int)), (.slice A20 (wfold cm).1.length c20)]) ag40_2 rfl hb_g5) rfl rfl rfl ?_
  refine wl_step0 (or_storeBlk (vs := [(.int .u8 (↑(codeOf cm).toNat : Int)), (.slice A20 (wfold cm).1.length c20)]) sz40 rfl rfl (by simp [Value.oneCell']) hb_g2 rfl) rfl rfl ?_
  rintro _ w12 ⟨hN12, hg12⟩
  have hz_hg12 := hg12.size
  replace hK := hK.gr hg12 (fun _ e => by cases e; omega)
  replace hV := hV.gr hg12 (fun _ e => by cases e; omega)
  replace hT := hT.gr hg12 (fun _ e => by cases e; omega)
  replace hE := hE.gr hg12 (fun _ e => by cases e; omega)
  replace hb_g1 := hb_g1.gr hg12 (by intro e; cases e; omega)
  replace hb_g4 := hb_g4.gr hg12 (by intro e; cases e; omega)
  replace ho20 := Own.gr ho20 hg12 (by first | exact .inl rfl | (right; intro e; first | (have := hq_ho20 _ e; omega) | (have := Own.lt ho20 e; omega) | exact own_blk_ne ho20 hb_g2 (by decide) e))
  replace hb_g5 := hb_g5.gr hg12 (by intro e; cases e; omega)
  replace hK29 := hK29.gr hg12 (fun _ e => by cases e; omega)
  replace hV29 := hV29.gr hg12 (fun _ e => by cases e; omega)
  replace hT29 := hT29.gr hg12 (fun _ e => by cases e; omega)
  replace hb_g6 := hb_g6.gr hg12 (by intro e; cases e; omega)
  replace hb_g2 := hN12
  refine va rfl rfl ?_
  refine q_nil (k_then (q_ret ?_))
  refine e_retL (rs := [.cell 2 40, .tmp 3]) (vs := [.agg #[(.int .u8 (↑(codeOf cm).toNat : Int)), (.slice A20 (wfold cm).1.length c20)], (.int .i64 0)]) rfl ⟨⟨_, _, [(.int .u8 (↑(codeOf cm).toNat : Int)), (.slice A20 (wfold cm).1.length c20)], rfl, ag40_2, hb_g2, rfl⟩, rfl, trivial⟩ ?_
  exact ⟨A20, c20, rfl, Own.mono ho20 (by omega), hE⟩

theorem wwrite_any (w : World) (cm : Cmd) (lo hi : Nat) (K : Option Addr) (ck : Nat) (V : Option Addr) (cv : Nat) (T : Option Addr) (ct : Nat) (hK : RdS w lo hi K ck cm.keys) (hV : RdB w lo hi V cv cm.value) (hT : RdS w lo hi T ct cm.tags) (hlf : cm.life < 18446744073709551616) (hvr : cm.ver < 18446744073709551616) (hsz : csz cm ≤ 17592186044416) :
    Fn Tryd.prog 17 #[.agg (cmdc cm K ck V cv T ct).toArray] w (fun v w' => ∃ A c, v = .tuple #[.agg #[.int .u8 (((wrC cm).1.1.toNat : Int) : Int), .slice A ((wrC cm).1.2).length c], .int .i64 ((wrC cm).2 : Int)] ∧ OwnB w' w.heap.size 5 A c ((wrC cm).1.2) ∧ Ext w w') := by
  by_cases h0 : 1 ≤ cm.op ∧ cm.op ≤ 15
  · obtain ⟨h1, h2⟩ := h0
    by_cases h3 : cm.value.length ≤ 65536
    · by_cases h4 : (wfold cm).2 = true
      · rw [wrC_bad (by rintro ⟨_, _, _, h, _⟩; rw [h4] at h; cases h)]; exact wwrite_bad w cm lo hi K ck V cv T ct hK hV hT hlf hvr hsz h1 h2 h3 h4
      · have h4' : (wfold cm).2 = false := by simpa using h4
        by_cases h5 : (rdC (codeOf cm) (wfold cm).1).2 = 0
        · by_cases h6 : (rdC (codeOf cm) (wfold cm).1).1 = cm
          · rw [wrC_ok h1 h2 h3 h4' (Prod.ext h6 h5)]; exact wwrite_ok w cm lo hi K ck V cv T ct hK hV hT hlf hvr hsz h1 h2 h3 h4' h5 h6
          · rw [wrC_bad (by rintro ⟨_, _, _, _, h⟩; exact h6 (congrArg Prod.fst h))]; exact wwrite_ne w cm lo hi K ck V cv T ct hK hV hT hlf hvr hsz h1 h2 h3 h4' h5 h6
        · rw [wrC_bad (by rintro ⟨_, _, _, _, h⟩; exact h5 (congrArg Prod.snd h))]; exact wwrite_err w cm lo hi K ck V cv T ct hK hV hT hlf hvr hsz h1 h2 h3 h4' h5
    · rw [wrC_bad (by rintro ⟨_, _, h, _⟩; exact h3 h)]; exact wwrite_value w cm lo hi K ck V cv T ct hK hV hT hlf hvr hsz h1 h2 (by omega)
  · rw [wrC_bad (by rintro ⟨a, b, _⟩; exact h0 ⟨a, b⟩)]; exact wwrite_op w cm lo hi K ck V cv T ct hK hV hT hlf hvr hsz (by omega)

theorem wvalid_any (w : World) (cm : Cmd) (lo hi : Nat) (K : Option Addr) (ck : Nat) (V : Option Addr) (cv : Nat) (T : Option Addr) (ct : Nat) (hK : RdS w lo hi K ck cm.keys) (hV : RdB w lo hi V cv cm.value) (hT : RdS w lo hi T ct cm.tags) (hlf : cm.life < 18446744073709551616) (hvr : cm.ver < 18446744073709551616) (hsz : csz cm ≤ 17592186044416) :
    Fn Tryd.prog 25 #[(.agg #[(.int .i64 cm.op), (.string (strB cm.key)), (.slice K cm.keys.length ck), (.slice V cm.value.length cv), (.slice T cm.tags.length ct), (.int .u64 (↑cm.life : Int)), (.int .u64 (↑cm.ver : Int)), (.string (strB cm.tag)), (.string (strB cm.pre)), (.string (strB cm.child))])] w (fun v w' => v = .bool (decide ((wrC cm).2 = 0)) ∧ Ext w w')  := by
  replace hK := hK.top
  replace hV := hV.top
  replace hT := hT.top
  have hE := ext_refl w
  refine fn_enter (args := [(.agg #[(.int .i64 cm.op), (.string (strB cm.key)), (.slice K cm.keys.length ck), (.slice V cm.value.length cv), (.slice T cm.tags.length ct), (.int .u64 (↑cm.life : Int)), (.int .u64 (↑cm.ver : Int)), (.string (strB cm.tag)), (.string (strB cm.pre)), (.string (strB cm.child))])]) Tryd.func25 rfl rfl rfl ?_
  show WC _ _ _ _ [(0, (.agg #[(.int .i64 cm.op), (.string (strB cm.key)), (.slice K cm.keys.length ck), (.slice V cm.value.length cv), (.slice T cm.tags.length ct), (.int .u64 (↑cm.life : Int)), (.int .u64 (↑cm.ver : Int)), (.string (strB cm.tag)), (.string (strB cm.pre)), (.string (strB cm.child))]))] _
  refine wc_seq (wc_regionL ?_)
  refine wl_step (or_box (cs := [(.int .i64 cm.op), (.string (strB cm.key)), (.slice K cm.keys.length ck), (.slice V cm.value.length cv), (.slice T cm.tags.length ct), (.int .u64 (↑cm.life : Int)), (.int .u64 (↑cm.ver : Int)), (.string (strB cm.tag)), (.string (strB cm.pre)), (.string (strB cm.child))]) rfl rfl) rfl rfl rfl ?_
  rintro v w1 ⟨g1, rfl, hb_g1, he1, hl1, hu1⟩
  replace hK := hK.ext he1
  replace hV := hV.ext he1
  replace hT := hT.ext he1
  replace hE := hE.tr he1
  have hz_he1 := he1.size
  refine va rfl rfl ?_
  refine q_nil (k_then (wc_seq (wc_regionL ?_)))
  refine wl_val (ov_loadBlk (cs := [(.int .i64 cm.op), (.string (strB cm.key)), (.slice K cm.keys.length ck), (.slice V cm.value.length cv), (.slice T cm.tags.length ct), (.int .u64 (↑cm.life : Int)), (.int .u64 (↑cm.ver : Int)), (.string (strB cm.tag)), (.string (strB cm.pre)), (.string (strB cm.child))]) ag36_10 rfl hb_g1) rfl rfl rfl ?_
  refine wl_step (or_call0 cl17 rfl rfl (wwrite_any _ cm _ _ K ck V cv T ct hK hV hT hlf hvr hsz)) rfl rfl rfl ?_
  rintro v w2 ⟨A7, c7, rfl, ho7, he7⟩
  replace hK := hK.ext he7
  replace hV := hV.ext he7
  replace hT := hT.ext he7
  replace hE := hE.tr he7
  replace hb_g1 := hb_g1.ext he7
  have hz_he7 := he7.size
  have hq_ho7 := fun g e => Own.lt ho7 (g := g) e
  refine vm rfl rfl ?_
  iterate 2 refine vx rfl rfl rfl ?_
  refine wl_step (or_alloc (cs := [(.int .u8 0), (.slice none 0 0)]) ze40 rfl) rfl rfl rfl ?_
  rintro v w3 ⟨g3, rfl, hb_g3, he3, hl3, hu3⟩
  replace hK := hK.ext he3
  replace hV := hV.ext he3
  replace hT := hT.ext he3
  replace hE := hE.tr he3
  replace hb_g1 := hb_g1.ext he3
  replace ho7 := Own.ext ho7 he3
  have hz_he3 := he3.size
  refine wl_step0 (or_storeBlk (vs := [(.int .u8 (↑(wrC cm).1.1.toNat : Int)), (.slice A7 (wrC cm).1.2.length c7)]) sz40 rfl rfl (by simp [Value.oneCell']) hb_g3 rfl) rfl rfl ?_
  rintro _ w4 ⟨hN4, hg4⟩
  have hz_hg4 := hg4.size
  replace hK := hK.gr hg4 (fun _ e => by cases e; omega)
  replace hV := hV.gr hg4 (fun _ e => by cases e; omega)
  replace hT := hT.gr hg4 (fun _ e => by cases e; omega)
  replace hE := hE.gr hg4 (fun _ e => by cases e; omega)
  replace hb_g1 := hb_g1.gr hg4 (by intro e; cases e; omega)
  replace ho7 := Own.gr ho7 hg4 (by first | exact .inl rfl | (right; intro e; first | (have := hq_ho7 _ e; omega) | (have := Own.lt ho7 e; omega) | exact own_blk_ne ho7 hb_g3 (by decide) e))
  replace hb_g3 := hN4
  refine va rfl rfl ?_
  refine q_nil (k_then (wc_seq (wc_regionL ?_)))
  refine vm rfl rfl ?_
  refine ve rfl rfl rfl ?_
  refine va rfl rfl ?_
  refine q_nil (k_then (q_ret ?_))
  refine e_ret rfl rfl ?_
  exact ⟨by congr 1; rw [decide_eq_decide]; omega, hE⟩

end Go.Proofs.YtohnkjjjejnkpaaDoor
