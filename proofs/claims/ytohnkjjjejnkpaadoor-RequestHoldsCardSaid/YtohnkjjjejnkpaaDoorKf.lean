/-
  The walk of RequestHolds.
-/
import Derived.Test.YtohnkjjjejnkpaaDoorKc
namespace Go.Proofs.YtohnkjjjejnkpaaDoor
open Go.RowKit
set_option linter.unusedVariables false
set_option maxRecDepth 4000
theorem cl13 : callable Tryd.prog 13 = true := by kernel_rfl
theorem cl25 : callable Tryd.prog 25 = true := by kernel_rfl
theorem cl9 : callable Tryd.prog 9 = true := by kernel_rfl

theorem rd_some {x : UInt8} {l : List UInt8} (h : (rdC x l).2 = 0) : ∃ y, refRead x l = some y ∧ rdC x l = (y, 0) := by
  have hr := rdC_ref x l
  cases hy : refRead x l with
  | none => rw [hy] at hr; rw [hr] at h; cases h
  | some y => exact ⟨y, rfl, by rw [hr, hy]⟩
theorem rdS_nums {c : Cmd} {p : UInt8} {l : List UInt8} (h : c.life < 18446744073709551616 ∧ c.ver < 18446744073709551616) : (rdS c p l).life < 18446744073709551616 ∧ (rdS c p l).ver < 18446744073709551616 := by
  have hn := numV_lt l
  unfold rdS
  repeat' split
  all_goals first | exact h | exact ⟨hn, h.2⟩ | exact ⟨h.1, hn⟩
theorem rr_nums : ∀ (ps : List UInt8) {c c' : Cmd} {l q : List UInt8}, (c.life < 18446744073709551616 ∧ c.ver < 18446744073709551616) → rr ps c l = some (c', q) → c'.life < 18446744073709551616 ∧ c'.ver < 18446744073709551616
  | [], c, c', l, q, h, hr => by
    simp only [rr, Option.some.injEq, Prod.mk.injEq] at hr
    obtain ⟨h1, _⟩ := hr; subst h1; exact h
  | p :: ps, c, c', l, q, h, hr => by
    by_cases ho : rdO p l = true
    · rw [rr, if_pos ho] at hr; exact rr_nums ps (rdS_nums h) hr
    · rw [rr, if_neg ho] at hr; cases hr
theorem ref_nums {x : UInt8} {l : List UInt8} {y : Cmd} (h : refRead x l = some y) : y.life < 18446744073709551616 ∧ y.ver < 18446744073709551616 := by
  unfold refRead at h
  split at h
  · cases h
  · rename_i c' q hrr
    split at h
    · cases h; exact rr_nums _ ⟨by show (0 : Nat) < _; decide, by show (0 : Nat) < _; decide⟩ hrr
    · cases h
theorem ref_sz {x : UInt8} {l : List UInt8} {y : Cmd} (h : refRead x l = some y) : csz y ≤ l.length + 2 := by
  obtain ⟨hv, _, ho⟩ := ref_inv h
  obtain ⟨_, hn, _⟩ := rvalid_iff.1 hv
  have e1 := congrArg (fun c => c.key.length) hn
  have e2 := congrArg (fun c => c.value.length) hn
  have e3 := congrArg (fun c => (wl c.tags).length) hn
  have e4 := congrArg (fun c => (wl c.keys).length) hn
  have e5 := congrArg (fun c => c.tag.length) hn
  have e6 := congrArg (fun c => c.pre.length) hn
  have e7 := congrArg (fun c => c.child.length) hn
  have e8 := congrArg List.length ho
  have w0 : (wl []).length = 1 := by decide
  have p1 := len_pb y.key
  have p2 := len_pb y.value
  have p3 := len_pb y.tag
  have p4 := len_pb y.pre
  have p5 := len_pb y.child
  unfold onlyC at e1 e2 e3 e4 e5 e6 e7
  unfold outC at e8
  unfold csz
  rcases needs_cases y.op with e | e | e | e | e | e | e | e | e <;>
    (rw [e] at e1 e2 e3 e4 e5 e6 e7 e8
     simp only [List.foldl_cons, List.foldl_nil, os_k, os_v, os_t, os_l, os_n, os_m, os_g, os_p, os_c, cmd0, List.length_nil, w0] at e1 e2 e3 e4 e5 e6 e7
     simp only [List.flatMap_cons, List.flatMap_nil, bC_k, bC_v, bC_t, bC_l, bC_n, bC_m, bC_g, bC_p, bC_c, List.length_append, List.length_nil] at e8
     omega)
theorem op_word {op : Int} (h1 : 1 ≤ op) (h2 : op ≤ 15) : opC (wordC op).1 = (op.toNat, 0) := by
  have key : ∀ k : Fin 16, 1 ≤ k.val → opC (wordsL.getD k.val []) = (k.val, 0) := by decide
  unfold wordC
  rw [if_pos ⟨h1, h2⟩]
  exact key ⟨op.toNat, by omega⟩ (by show 1 ≤ op.toNat; omega)
theorem word_in {op : Int} (h : (wordC op).2 = 0) : 1 ≤ op ∧ op ≤ 15 := by
  by_cases hb : 1 ≤ op ∧ op ≤ 15
  · exact hb
  · unfold wordC at h; rw [if_neg hb] at h; cases h

theorem requestHolds_a (w : World) (hW : WordsAt w) (a : Cmd) (lo hi : Nat) (K : Option Addr) (ck : Nat) (V : Option Addr) (cv : Nat) (T : Option Addr) (ct : Nat) (hK : RdS w lo hi K ck a.keys) (hV : RdB w lo hi V cv a.value) (hT : RdS w lo hi T ct a.tags) (hoa : CmdOK a) (lo2 hi2 : Nat) (x : UInt8) (A : Option Addr) (c : Nat) (l : List UInt8) (hr : RdB w lo2 hi2 A c l) (ha : lightC a = false) :
    Fn Tryd.prog 8 #[(.agg #[(.int .i64 a.op), (.string (strB a.key)), (.slice K a.keys.length ck), (.slice V a.value.length cv), (.slice T a.tags.length ct), (.int .u64 (↑a.life : Int)), (.int .u64 (↑a.ver : Int)), (.string (strB a.tag)), (.string (strB a.pre)), (.string (strB a.child))]), (.agg #[(.int .u8 (↑x.toNat : Int)), (.slice A l.length c)])] w (fun v w' => v = .bool true ∧ Ext w w')  := by
  replace hK := hK.top
  replace hV := hV.top
  replace hT := hT.top
  replace hr := hr.top
  have hE := ext_refl w
  refine fn_enter (args := [(.agg #[(.int .i64 a.op), (.string (strB a.key)), (.slice K a.keys.length ck), (.slice V a.value.length cv), (.slice T a.tags.length ct), (.int .u64 (↑a.life : Int)), (.int .u64 (↑a.ver : Int)), (.string (strB a.tag)), (.string (strB a.pre)), (.string (strB a.child))]), (.agg #[(.int .u8 (↑x.toNat : Int)), (.slice A l.length c)])]) Tryd.func8 rfl rfl rfl ?_
  show WC _ _ _ _ [(0, (.agg #[(.int .i64 a.op), (.string (strB a.key)), (.slice K a.keys.length ck), (.slice V a.value.length cv), (.slice T a.tags.length ct), (.int .u64 (↑a.life : Int)), (.int .u64 (↑a.ver : Int)), (.string (strB a.tag)), (.string (strB a.pre)), (.string (strB a.child))])), (1, (.agg #[(.int .u8 (↑x.toNat : Int)), (.slice A l.length c)]))] _
  refine wc_seq (wc_regionL ?_)
  refine wl_step (or_box (cs := [(.int .i64 a.op), (.string (strB a.key)), (.slice K a.keys.length ck), (.slice V a.value.length cv), (.slice T a.tags.length ct), (.int .u64 (↑a.life : Int)), (.int .u64 (↑a.ver : Int)), (.string (strB a.tag)), (.string (strB a.pre)), (.string (strB a.child))]) rfl rfl) rfl rfl rfl ?_
  rintro v w1 ⟨g2, rfl, hb_g2, he2, hl2, hu2⟩
  replace hK := hK.ext he2
  replace hV := hV.ext he2
  replace hT := hT.ext he2
  replace hr := hr.ext he2
  replace hE := hE.tr he2
  have hz_he2 := he2.size
  refine wl_step (or_box (cs := [(.int .u8 (↑x.toNat : Int)), (.slice A l.length c)]) rfl rfl) rfl rfl rfl ?_
  rintro v w2 ⟨g3, rfl, hb_g3, he3, hl3, hu3⟩
  replace hK := hK.ext he3
  replace hV := hV.ext he3
  replace hT := hT.ext he3
  replace hr := hr.ext he3
  replace hE := hE.tr he3
  replace hb_g2 := hb_g2.ext he3
  have hz_he3 := he3.size
  refine va rfl rfl ?_
  refine q_nil (k_then (wc_seq (wc_seq (wc_regionL ?_))))
  refine wl_val (ov_loadBlk (cs := [(.int .i64 a.op), (.string (strB a.key)), (.slice K a.keys.length ck), (.slice V a.value.length cv), (.slice T a.tags.length ct), (.int .u64 (↑a.life : Int)), (.int .u64 (↑a.ver : Int)), (.string (strB a.tag)), (.string (strB a.pre)), (.string (strB a.child))]) ag36_10 rfl hb_g2) rfl rfl rfl ?_
  refine wl_step (or_call0 cl13 rfl rfl (light_any _ a _ _ K ck V cv T ct hK hV hT hoa)) rfl rfl rfl ?_
  rintro v w3 ⟨rfl, he13⟩
  replace hK := hK.ext he13
  replace hV := hV.ext he13
  replace hT := hT.ext he13
  replace hr := hr.ext he13
  replace hE := hE.tr he13
  replace hb_g2 := hb_g2.ext he13
  replace hb_g3 := hb_g3.ext he13
  have hz_he13 := he13.size
  refine wl_spell (d := 13) rfl (v' := (.bool false)) (by rw [ha]) ?_
  refine wl_val (ov_not (b := false) rfl) rfl rfl rfl ?_
  refine vm rfl rfl ?_
  iterate 4 refine wl_gskip rfl rfl rfl rfl rfl rfl ?_
  refine wl_val (ov_pick_t rfl rfl) rfl rfl rfl ?_
  refine q_nil (k_then ?_)
  refine wc_cond_t rfl ?_
  refine wc_seq (wc_regionL ?_)
  refine wl_step (or_call0 cl9 rfl rfl (known07_any _ (hW.ext hE))) rfl rfl rfl ?_
  rintro v w4 ⟨rfl, he21⟩
  replace hK := hK.ext he21
  replace hV := hV.ext he21
  replace hT := hT.ext he21
  replace hr := hr.ext he21
  replace hE := hE.tr he21
  replace hb_g2 := hb_g2.ext he21
  replace hb_g3 := hb_g3.ext he21
  have hz_he21 := he21.size
  refine va rfl rfl ?_
  refine q_nil (k_then (q_ret (k_thenR ?_)))
  refine e_ret rfl rfl ?_
  exact ⟨rfl, hE⟩

theorem requestHolds_b (w : World) (hW : WordsAt w) (a : Cmd) (lo hi : Nat) (K : Option Addr) (ck : Nat) (V : Option Addr) (cv : Nat) (T : Option Addr) (ct : Nat) (hK : RdS w lo hi K ck a.keys) (hV : RdB w lo hi V cv a.value) (hT : RdS w lo hi T ct a.tags) (hoa : CmdOK a) (lo2 hi2 : Nat) (x : UInt8) (A : Option Addr) (c : Nat) (l : List UInt8) (hr : RdB w lo2 hi2 A c l) (ha : lightC a = true) (hv : rvalid a = true) :
    Fn Tryd.prog 8 #[(.agg #[(.int .i64 a.op), (.string (strB a.key)), (.slice K a.keys.length ck), (.slice V a.value.length cv), (.slice T a.tags.length ct), (.int .u64 (↑a.life : Int)), (.int .u64 (↑a.ver : Int)), (.string (strB a.tag)), (.string (strB a.pre)), (.string (strB a.child))]), (.agg #[(.int .u8 (↑x.toNat : Int)), (.slice A l.length c)])] w (fun v w' => v = .bool true ∧ Ext w w')  := by
  replace hK := hK.top
  replace hV := hV.top
  replace hT := hT.top
  replace hr := hr.top
  have hE := ext_refl w
  obtain ⟨hsa, hta, hka, hva⟩ := light_sz ha
  have hwr : wrC a = ((codeOf a, outC a), 0) := by rw [wrC_eq hoa.life hoa.ver, if_pos hv]
  have hrb : rdC (wrC a).1.1 (wrC a).1.2 = (a, 0) := by rw [hwr]; exact rdC_back hoa.life hoa.ver hv
  have hol := outC_len a (needs a.op)
  have hnl := needs_len a.op
  have hol2 : (needs a.op).length * (csz a + 10) ≤ 5 * (csz a + 10) := Nat.mul_le_mul_right _ hnl
  replace hol : (outC a).length ≤ 5 * (csz a + 10) := Nat.le_trans hol hol2
  refine fn_enter (args := [(.agg #[(.int .i64 a.op), (.string (strB a.key)), (.slice K a.keys.length ck), (.slice V a.value.length cv), (.slice T a.tags.length ct), (.int .u64 (↑a.life : Int)), (.int .u64 (↑a.ver : Int)), (.string (strB a.tag)), (.string (strB a.pre)), (.string (strB a.child))]), (.agg #[(.int .u8 (↑x.toNat : Int)), (.slice A l.length c)])]) Tryd.func8 rfl rfl rfl ?_
  show WC _ _ _ _ [(0, (.agg #[(.int .i64 a.op), (.string (strB a.key)), (.slice K a.keys.length ck), (.slice V a.value.length cv), (.slice T a.tags.length ct), (.int .u64 (↑a.life : Int)), (.int .u64 (↑a.ver : Int)), (.string (strB a.tag)), (.string (strB a.pre)), (.string (strB a.child))])), (1, (.agg #[(.int .u8 (↑x.toNat : Int)), (.slice A l.length c)]))] _
  refine wc_seq (wc_regionL ?_)
  refine wl_step (or_box (cs := [(.int .i64 a.op), (.string (strB a.key)), (.slice K a.keys.length ck), (.slice V a.value.length cv), (.slice T a.tags.length ct), (.int .u64 (↑a.life : Int)), (.int .u64 (↑a.ver : Int)), (.string (strB a.tag)), (.string (strB a.pre)), (.string (strB a.child))]) rfl rfl) rfl rfl rfl ?_
  rintro v w1 ⟨g2, rfl, hb_g2, he2, hl2, hu2⟩
  replace hK := hK.ext he2
  replace hV := hV.ext he2
  replace hT := hT.ext he2
  replace hr := hr.ext he2
  replace hE := hE.tr he2
  have hz_he2 := he2.size
  refine wl_step (or_box (cs := [(.int .u8 (↑x.toNat : Int)), (.slice A l.length c)]) rfl rfl) rfl rfl rfl ?_
  rintro v w2 ⟨g3, rfl, hb_g3, he3, hl3, hu3⟩
  replace hK := hK.ext he3
  replace hV := hV.ext he3
  replace hT := hT.ext he3
  replace hr := hr.ext he3
  replace hE := hE.tr he3
  replace hb_g2 := hb_g2.ext he3
  have hz_he3 := he3.size
  refine va rfl rfl ?_
  refine q_nil (k_then (wc_seq (wc_seq (wc_regionL ?_))))
  refine wl_val (ov_loadBlk (cs := [(.int .i64 a.op), (.string (strB a.key)), (.slice K a.keys.length ck), (.slice V a.value.length cv), (.slice T a.tags.length ct), (.int .u64 (↑a.life : Int)), (.int .u64 (↑a.ver : Int)), (.string (strB a.tag)), (.string (strB a.pre)), (.string (strB a.child))]) ag36_10 rfl hb_g2) rfl rfl rfl ?_
  refine wl_step (or_call0 cl13 rfl rfl (light_any _ a _ _ K ck V cv T ct hK hV hT hoa)) rfl rfl rfl ?_
  rintro v w3 ⟨rfl, he13⟩
  replace hK := hK.ext he13
  replace hV := hV.ext he13
  replace hT := hT.ext he13
  replace hr := hr.ext he13
  replace hE := hE.tr he13
  replace hb_g2 := hb_g2.ext he13
  replace hb_g3 := hb_g3.ext he13
  have hz_he13 := he13.size
  refine wl_spell (d := 13) rfl (v' := (.bool true)) (by rw [ha]) ?_
  refine wl_val (ov_not (b := true) rfl) rfl rfl rfl ?_
  refine vm rfl rfl ?_
  refine wl_gval (ov_field0 (off := 1) fo40_1 rfl) rfl rfl rfl rfl rfl ?_
  refine wl_gval (ov_loadAt oc32 rfl hb_g3 rfl) rfl rfl rfl rfl rfl ?_
  refine wl_gval (ov_len Tryd.underlying32 rfl) rfl rfl rfl rfl rfl ?_
  refine wl_gval (ov_gtr rfl rfl) rfl rfl rfl rfl rfl ?_
  refine wl_val (ov_pick_f rfl rfl) rfl rfl rfl ?_
  refine q_nil (k_then ?_)
  refine wc_cond_d rfl (fun hc1 => ?_) (fun hc1 => ?_)
  · refine wc_seq (wc_regionL ?_)
    refine wl_step (or_call0 cl9 rfl rfl (known07_any _ (hW.ext hE))) rfl rfl rfl ?_
    rintro v w4 ⟨rfl, he21⟩
    replace hK := hK.ext he21
    replace hV := hV.ext he21
    replace hT := hT.ext he21
    replace hr := hr.ext he21
    replace hE := hE.tr he21
    replace hb_g2 := hb_g2.ext he21
    replace hb_g3 := hb_g3.ext he21
    have hz_he21 := he21.size
    refine va rfl rfl ?_
    refine q_nil (k_then (q_ret (k_thenR ?_)))
    refine e_ret rfl rfl ?_
    exact ⟨rfl, hE⟩
  · refine q_skip (k_then (wc_seq (wc_regionL ?_)))
    refine wl_val (ov_loadBlk (cs := [(.int .i64 a.op), (.string (strB a.key)), (.slice K a.keys.length ck), (.slice V a.value.length cv), (.slice T a.tags.length ct), (.int .u64 (↑a.life : Int)), (.int .u64 (↑a.ver : Int)), (.string (strB a.tag)), (.string (strB a.pre)), (.string (strB a.child))]) ag36_10 rfl hb_g2) rfl rfl rfl ?_
    refine wl_step (or_call0 cl17 rfl rfl (wwrite_any _ a _ _ K ck V cv T ct hK hV hT hoa.life hoa.ver hsa)) rfl rfl rfl ?_
    rintro v w204 ⟨A24, c24, rfl, ho24, he24⟩
    replace hK := hK.ext he24
    replace hV := hV.ext he24
    replace hT := hT.ext he24
    replace hr := hr.ext he24
    replace hE := hE.tr he24
    replace hb_g2 := hb_g2.ext he24
    replace hb_g3 := hb_g3.ext he24
    have hz_he24 := he24.size
    have hq_ho24 := fun g e => Own.lt ho24 (g := g) e
    refine vm rfl rfl ?_
    iterate 2 refine vx rfl rfl rfl ?_
    refine wl_step (or_alloc (cs := [(.int .u8 0), (.slice none 0 0)]) ze40 rfl) rfl rfl rfl ?_
    rintro v w205 ⟨g5, rfl, hb_g5, he5, hl5, hu5⟩
    replace hK := hK.ext he5
    replace hV := hV.ext he5
    replace hT := hT.ext he5
    replace hr := hr.ext he5
    replace hE := hE.tr he5
    replace hb_g2 := hb_g2.ext he5
    replace hb_g3 := hb_g3.ext he5
    replace ho24 := Own.ext ho24 he5
    have hz_he5 := he5.size
    refine wl_step0 (or_storeBlk (vs := [(.int .u8 (↑(wrC a).1.1.toNat : Int)), (.slice A24 (wrC a).1.2.length c24)]) sz40 rfl rfl (by simp [Value.oneCell']) hb_g5 rfl) rfl rfl ?_
    rintro _ w206 ⟨hN206, hg206⟩
    have hz_hg206 := hg206.size
    replace hK := hK.gr hg206 (fun _ e => by cases e; omega)
    replace hV := hV.gr hg206 (fun _ e => by cases e; omega)
    replace hT := hT.gr hg206 (fun _ e => by cases e; omega)
    replace hr := hr.gr hg206 (fun _ e => by cases e; omega)
    replace hE := hE.gr hg206 (fun _ e => by cases e; omega)
    replace hb_g2 := hb_g2.gr hg206 (by intro e; cases e; omega)
    replace hb_g3 := hb_g3.gr hg206 (by intro e; cases e; omega)
    replace ho24 := Own.gr ho24 hg206 (by first | exact .inl rfl | (right; intro e; first | (have := hq_ho24 _ e; omega) | (have := Own.lt ho24 e; omega) | exact own_blk_ne ho24 hb_g5 (by decide) e))
    replace hb_g5 := hN206
    refine va rfl rfl ?_
    refine q_nil (k_then (wc_seq (wc_seq (wc_regionL ?_))))
    refine vm rfl rfl ?_
    refine ve rfl rfl rfl ?_
    refine wl_spell (d := 28) rfl (bt (by rw [hwr]; rfl)) ?_
    refine wl_val (ov_loadBlk (cs := [(.int .i64 a.op), (.string (strB a.key)), (.slice K a.keys.length ck), (.slice V a.value.length cv), (.slice T a.tags.length ct), (.int .u64 (↑a.life : Int)), (.int .u64 (↑a.ver : Int)), (.string (strB a.tag)), (.string (strB a.pre)), (.string (strB a.child))]) ag36_10 rfl hb_g2) rfl rfl rfl ?_
    refine wl_step (or_call0 cl25 rfl rfl (wvalid_ref _ a _ _ K ck V cv T ct hK hV hT hoa.life hoa.ver hsa)) rfl rfl rfl ?_
    rintro v w207 ⟨rfl, he30⟩
    replace hK := hK.ext he30
    replace hV := hV.ext he30
    replace hT := hT.ext he30
    replace hr := hr.ext he30
    replace hE := hE.tr he30
    replace hb_g2 := hb_g2.ext he30
    replace hb_g3 := hb_g3.ext he30
    replace ho24 := Own.ext ho24 he30
    replace hb_g5 := hb_g5.ext he30
    have hz_he30 := he30.size
    refine wl_spell (d := 30) rfl (v' := (.bool true)) (by rw [hv]) ?_
    refine wl_val (ov_neb Tryd.underlying4 rfl rfl) rfl rfl rfl ?_
    refine wl_spell (d := 31) rfl (v' := (.bool false)) (rfl) ?_
    refine vm rfl rfl ?_
    refine wl_gval (ov_move rfl) rfl rfl rfl rfl rfl ?_
    refine wl_gval (ov_eql rfl rfl) rfl rfl rfl rfl rfl ?_
    refine wl_spell (d := 34) rfl (bt (by rw [hwr]; rfl)) ?_
    refine wl_gval (ov_move rfl) rfl rfl rfl rfl rfl ?_
    refine wl_gval (ov_loadBlk (cs := [(.int .u8 (↑(wrC a).1.1.toNat : Int)), (.slice A24 (wrC a).1.2.length c24)]) ag40_2 rfl hb_g5) rfl rfl rfl rfl rfl ?_
    refine wl_gval (ov_loadBlk (cs := [(.int .i64 a.op), (.string (strB a.key)), (.slice K a.keys.length ck), (.slice V a.value.length cv), (.slice T a.tags.length ct), (.int .u64 (↑a.life : Int)), (.int .u64 (↑a.ver : Int)), (.string (strB a.tag)), (.string (strB a.pre)), (.string (strB a.child))]) ag36_10 rfl hb_g2) rfl rfl rfl rfl rfl ?_
    refine wl_gstep (or_call0 cl23 rfl rfl (lreads_any _ _ _ ((wrC a).1.1) _ _ (wrC a).1.2 (OwnB.rd ho24) (by rw [hwr]; show (outC a).length ≤ _; omega) a _ _ K ck V cv T ct hK hV hT 0 _ (by rfl) hrb)) rfl rfl rfl rfl rfl ?_
    rintro v w208 ⟨rfl, he38⟩
    replace hK := hK.ext he38
    replace hV := hV.ext he38
    replace hT := hT.ext he38
    replace hr := hr.ext he38
    replace hE := hE.tr he38
    replace hb_g2 := hb_g2.ext he38
    replace hb_g3 := hb_g3.ext he38
    replace ho24 := Own.ext ho24 he38
    replace hb_g5 := hb_g5.ext he38
    have hz_he38 := he38.size
    refine wl_gval (ov_not (b := true) rfl) rfl rfl rfl rfl rfl ?_
    refine wl_gval (ov_pick_t rfl rfl) rfl rfl rfl rfl rfl ?_
    refine wl_val (ov_pick_f rfl rfl) rfl rfl rfl ?_
    refine q_nil (k_then ?_)
    refine wc_cond_f rfl ?_
    refine q_skip (k_then (wc_seq (wc_seq (wc_regionL ?_))))
    refine wl_val (ov_loadBlk (cs := [(.int .u8 (↑x.toNat : Int)), (.slice A l.length c)]) ag40_2 rfl hb_g3) rfl rfl rfl ?_
    refine wl_step (or_call0 cl24 rfl rfl (rread_any _ x _ _ A c l hr (by first | omega | decide | (simp; done)))) rfl rfl rfl ?_
    rintro v w209 ⟨K44, ck44, V44, cv44, T44, ct44, rfl, hK44, hV44, hT44, he44⟩
    replace hK := hK.ext he44
    replace hV := hV.ext he44
    replace hT := hT.ext he44
    replace hr := hr.ext he44
    replace hE := hE.tr he44
    replace hb_g2 := hb_g2.ext he44
    replace hb_g3 := hb_g3.ext he44
    replace ho24 := Own.ext ho24 he44
    replace hb_g5 := hb_g5.ext he44
    have hz_he44 := he44.size
    refine vm rfl rfl ?_
    iterate 2 refine vx rfl rfl rfl ?_
    refine wl_step (or_alloc (cs := [(.int .i64 0), (.string (strB [])), (.slice none 0 0), (.slice none 0 0), (.slice none 0 0), (.int .u64 0), (.int .u64 0), (.string (strB [])), (.string (strB [])), (.string (strB []))]) ze36 rfl) rfl rfl rfl ?_
    rintro v w210 ⟨g7, rfl, hb_g7, he7, hl7, hu7⟩
    replace hK := hK.ext he7
    replace hV := hV.ext he7
    replace hT := hT.ext he7
    replace hr := hr.ext he7
    replace hE := hE.tr he7
    replace hb_g2 := hb_g2.ext he7
    replace hb_g3 := hb_g3.ext he7
    replace ho24 := Own.ext ho24 he7
    replace hb_g5 := hb_g5.ext he7
    replace hK44 := hK44.ext he7
    replace hV44 := hV44.ext he7
    replace hT44 := hT44.ext he7
    have hz_he7 := he7.size
    refine wl_step0 (or_storeBlk (vs := [(.int .i64 (rdC x l).1.op), (.string (strB (rdC x l).1.key)), (.slice K44 (rdC x l).1.keys.length ck44), (.slice V44 (rdC x l).1.value.length cv44), (.slice T44 (rdC x l).1.tags.length ct44), (.int .u64 (↑(rdC x l).1.life : Int)), (.int .u64 (↑(rdC x l).1.ver : Int)), (.string (strB (rdC x l).1.tag)), (.string (strB (rdC x l).1.pre)), (.string (strB (rdC x l).1.child))]) sz36 rfl rfl (by simp [Value.oneCell']) hb_g7 rfl) rfl rfl ?_
    rintro _ w211 ⟨hN211, hg211⟩
    have hz_hg211 := hg211.size
    replace hK := hK.gr hg211 (fun _ e => by cases e; omega)
    replace hV := hV.gr hg211 (fun _ e => by cases e; omega)
    replace hT := hT.gr hg211 (fun _ e => by cases e; omega)
    replace hr := hr.gr hg211 (fun _ e => by cases e; omega)
    replace hE := hE.gr hg211 (fun _ e => by cases e; omega)
    replace hb_g2 := hb_g2.gr hg211 (by intro e; cases e; omega)
    replace hb_g3 := hb_g3.gr hg211 (by intro e; cases e; omega)
    replace ho24 := Own.gr ho24 hg211 (by first | exact .inl rfl | (right; intro e; first | (have := hq_ho24 _ e; omega) | (have := Own.lt ho24 e; omega) | exact own_blk_ne ho24 hb_g7 (by decide) e))
    replace hb_g5 := hb_g5.gr hg211 (by intro e; cases e; omega)
    replace hK44 := hK44.gr hg211 (fun _ e => by cases e; omega)
    replace hV44 := hV44.gr hg211 (fun _ e => by cases e; omega)
    replace hT44 := hT44.gr hg211 (fun _ e => by cases e; omega)
    replace hb_g7 := hN211
    refine va rfl rfl ?_
    refine q_nil (k_then (wc_seq (wc_regionL ?_)))
    refine vm rfl rfl ?_
    refine ve rfl rfl rfl ?_
    refine wl_case_d (d := 48) rfl (fun h48 => ?_) (fun h48 => ?_)
    · obtain ⟨y, hy, hrd⟩ := rd_some (x := x) (l := l) (by omega)
      obtain ⟨hyv, hyc, hyo⟩ := ref_inv hy
      obtain ⟨hyl, hyr⟩ := ref_nums hy
      have hys := ref_sz hy
      have hyw : wrC y = ((x, l), 0) := by rw [wrC_eq hyl hyr, if_pos hyv, hyc, hyo]
      have hrd1 : (rdC x l).1 = y := by rw [hrd]
      have hcs1 : (rdC x l).1.life < 18446744073709551616 := by rw [hrd1]; exact hyl
      have hcs2 : (rdC x l).1.ver < 18446744073709551616 := by rw [hrd1]; exact hyr
      have hcs3 : csz (rdC x l).1 ≤ 17592186044416 := by rw [hrd1]; omega
      refine vm rfl rfl ?_
      refine wl_gval (ov_loadBlk (cs := [(.int .i64 (rdC x l).1.op), (.string (strB (rdC x l).1.key)), (.slice K44 (rdC x l).1.keys.length ck44), (.slice V44 (rdC x l).1.value.length cv44), (.slice T44 (rdC x l).1.tags.length ct44), (.int .u64 (↑(rdC x l).1.life : Int)), (.int .u64 (↑(rdC x l).1.ver : Int)), (.string (strB (rdC x l).1.tag)), (.string (strB (rdC x l).1.pre)), (.string (strB (rdC x l).1.child))]) ag36_10 rfl hb_g7) rfl rfl rfl rfl rfl ?_
      refine wl_gstep (or_call0 cl25 rfl rfl (wvalid_ref _ (rdC x l).1 _ _ K44 ck44 V44 cv44 T44 ct44 hK44 hV44 hT44 hcs1 hcs2 hcs3)) rfl rfl rfl rfl rfl ?_
      rintro v w212 ⟨rfl, he51⟩
      replace hK := hK.ext he51
      replace hV := hV.ext he51
      replace hT := hT.ext he51
      replace hr := hr.ext he51
      replace hE := hE.tr he51
      replace hb_g2 := hb_g2.ext he51
      replace hb_g3 := hb_g3.ext he51
      replace ho24 := Own.ext ho24 he51
      replace hb_g5 := hb_g5.ext he51
      replace hK44 := hK44.ext he51
      replace hV44 := hV44.ext he51
      replace hT44 := hT44.ext he51
      replace hb_g7 := hb_g7.ext he51
      have hz_he51 := he51.size
      refine wl_spell (d := 51) rfl (v' := (.bool true)) (by rw [hrd1, hyv]) ?_
      refine wl_gval (ov_not (b := true) rfl) rfl rfl rfl rfl rfl ?_
      refine wl_gval (ov_move rfl) rfl rfl rfl rfl rfl ?_
      refine wl_gval (ov_loadBlk (cs := [(.int .i64 (rdC x l).1.op), (.string (strB (rdC x l).1.key)), (.slice K44 (rdC x l).1.keys.length ck44), (.slice V44 (rdC x l).1.value.length cv44), (.slice T44 (rdC x l).1.tags.length ct44), (.int .u64 (↑(rdC x l).1.life : Int)), (.int .u64 (↑(rdC x l).1.ver : Int)), (.string (strB (rdC x l).1.tag)), (.string (strB (rdC x l).1.pre)), (.string (strB (rdC x l).1.child))]) ag36_10 rfl hb_g7) rfl rfl rfl rfl rfl ?_
      refine wl_gval (ov_loadBlk (cs := [(.int .u8 (↑x.toNat : Int)), (.slice A l.length c)]) ag40_2 rfl hb_g3) rfl rfl rfl rfl rfl ?_
      refine wl_gstep (or_call0 cl15 rfl rfl (lwrites_any _ (rdC x l).1 _ _ K44 ck44 V44 cv44 T44 ct44 hK44 hV44 hT44 _ _ (x) _ _ l hr 0 _ (by rfl) hcs1 hcs2 hcs3 (by rw [hrd1]; exact hyw))) rfl rfl rfl rfl rfl ?_
      rintro v w213 ⟨rfl, he56⟩
      replace hK := hK.ext he56
      replace hV := hV.ext he56
      replace hT := hT.ext he56
      replace hr := hr.ext he56
      replace hE := hE.tr he56
      replace hb_g2 := hb_g2.ext he56
      replace hb_g3 := hb_g3.ext he56
      replace ho24 := Own.ext ho24 he56
      replace hb_g5 := hb_g5.ext he56
      replace hK44 := hK44.ext he56
      replace hV44 := hV44.ext he56
      replace hT44 := hT44.ext he56
      replace hb_g7 := hb_g7.ext he56
      have hz_he56 := he56.size
      refine wl_gval (ov_not (b := true) rfl) rfl rfl rfl rfl rfl ?_
      refine wl_gval (ov_pick_f rfl rfl) rfl rfl rfl rfl rfl ?_
      refine wl_val (ov_pick_t rfl rfl) rfl rfl rfl ?_
      refine q_nil (k_then ?_)
      refine wc_cond_f rfl ?_
      refine q_skip (k_then (wc_seq (wc_regionL ?_)))
      refine wl_val (ov_field0 (off := 0) fo36_0 rfl) rfl rfl rfl ?_
      refine wl_val (ov_loadAt oc22 rfl hb_g2 rfl) rfl rfl rfl ?_
      refine wl_val (or_call0 cl10 rfl rfl (word_any _ a.op (hW.ext hE))) rfl rfl rfl ?_
      refine vm rfl rfl ?_
      iterate 2 refine vx rfl rfl rfl ?_
      iterate 2 refine va rfl rfl ?_
      refine q_nil (k_then (wc_seq (wc_seq (wc_regionL ?_))))
      refine vm rfl rfl ?_
      refine ve rfl rfl rfl ?_
      refine q_nil (k_then ?_)
      refine wc_cond_d rfl (fun hc4 => ?_) (fun hc4 => ?_)
      · obtain ⟨hop1, hop2⟩ := word_in (op := a.op) (by omega)
        have hopw := op_word hop1 hop2
        refine wc_seq (wc_regionL ?_)
        refine vm rfl rfl ?_
        refine wl_val (or_call0 cl12 rfl rfl (op_any _ (wordC a.op).1 (hW.ext hE))) rfl rfl rfl ?_
        refine vm rfl rfl ?_
        iterate 2 refine vx rfl rfl rfl ?_
        iterate 2 refine va rfl rfl ?_
        refine q_nil (k_then (wc_seq (wc_regionL ?_)))
        refine vm rfl rfl ?_
        refine wl_val (ov_field0 (off := 0) fo36_0 rfl) rfl rfl rfl ?_
        refine wl_val (ov_loadAt oc22 rfl hb_g2 rfl) rfl rfl rfl ?_
        refine wl_val (ov_neq rfl rfl) rfl rfl rfl ?_
        refine wl_spell (d := 76) rfl (bf (by rw [hopw]; show ¬ ((a.op.toNat : Int) ≠ a.op); omega)) ?_
        refine vm rfl rfl ?_
        refine wl_gval (ov_move rfl) rfl rfl rfl rfl rfl ?_
        refine wl_gval (ov_neq rfl rfl) rfl rfl rfl rfl rfl ?_
        refine wl_spell (d := 79) rfl (bf (by rw [hopw]; exact fun h => h rfl)) ?_
        refine wl_val (ov_pick_f rfl rfl) rfl rfl rfl ?_
        refine q_nil (k_then ?_)
        refine wc_cond_f rfl ?_
        refine q_skip (k_then (wc_seq (wc_regionL ?_)))
        refine wl_step (or_call0 cl9 rfl rfl (known07_any _ (hW.ext hE))) rfl rfl rfl ?_
        rintro v w214 ⟨rfl, he81⟩
        replace hK := hK.ext he81
        replace hV := hV.ext he81
        replace hT := hT.ext he81
        replace hr := hr.ext he81
        replace hE := hE.tr he81
        replace hb_g2 := hb_g2.ext he81
        replace hb_g3 := hb_g3.ext he81
        replace ho24 := Own.ext ho24 he81
        replace hb_g5 := hb_g5.ext he81
        replace hK44 := hK44.ext he81
        replace hV44 := hV44.ext he81
        replace hT44 := hT44.ext he81
        replace hb_g7 := hb_g7.ext he81
        have hz_he81 := he81.size
        refine va rfl rfl ?_
        refine q_nil (k_then (q_ret ?_))
        refine e_ret rfl rfl ?_
        exact ⟨rfl, hE⟩
      · refine q_skip (k_then (wc_seq (wc_regionL ?_)))
        refine wl_step (or_call0 cl9 rfl rfl (known07_any _ (hW.ext hE))) rfl rfl rfl ?_
        rintro v w214 ⟨rfl, he81⟩
        replace hK := hK.ext he81
        replace hV := hV.ext he81
        replace hT := hT.ext he81
        replace hr := hr.ext he81
        replace hE := hE.tr he81
        replace hb_g2 := hb_g2.ext he81
        replace hb_g3 := hb_g3.ext he81
        replace ho24 := Own.ext ho24 he81
        replace hb_g5 := hb_g5.ext he81
        replace hK44 := hK44.ext he81
        replace hV44 := hV44.ext he81
        replace hT44 := hT44.ext he81
        replace hb_g7 := hb_g7.ext he81
        have hz_he81 := he81.size
        refine va rfl rfl ?_
        refine q_nil (k_then (q_ret ?_))
        refine e_ret rfl rfl ?_
        exact ⟨rfl, hE⟩
    · refine vm rfl rfl ?_
      iterate 4 refine wl_gskip rfl rfl rfl rfl rfl rfl ?_
      iterate 4 refine wl_gskipU rfl rfl rfl rfl rfl ?_
      refine wl_gskip rfl rfl rfl rfl rfl rfl ?_
      refine wl_val (ov_pick_f rfl rfl) rfl rfl rfl ?_
      refine q_nil (k_then ?_)
      refine wc_cond_f rfl ?_
      refine q_skip (k_then (wc_seq (wc_regionL ?_)))
      refine wl_val (ov_field0 (off := 0) fo36_0 rfl) rfl rfl rfl ?_
      refine wl_val (ov_loadAt oc22 rfl hb_g2 rfl) rfl rfl rfl ?_
      refine wl_val (or_call0 cl10 rfl rfl (word_any _ a.op (hW.ext hE))) rfl rfl rfl ?_
      refine vm rfl rfl ?_
      iterate 2 refine vx rfl rfl rfl ?_
      iterate 2 refine va rfl rfl ?_
      refine q_nil (k_then (wc_seq (wc_seq (wc_regionL ?_))))
      refine vm rfl rfl ?_
      refine ve rfl rfl rfl ?_
      refine q_nil (k_then ?_)
      refine wc_cond_d rfl (fun hc4 => ?_) (fun hc4 => ?_)
      · obtain ⟨hop1, hop2⟩ := word_in (op := a.op) (by omega)
        have hopw := op_word hop1 hop2
        refine wc_seq (wc_regionL ?_)
        refine vm rfl rfl ?_
        refine wl_val (or_call0 cl12 rfl rfl (op_any _ (wordC a.op).1 (hW.ext hE))) rfl rfl rfl ?_
        refine vm rfl rfl ?_
        iterate 2 refine vx rfl rfl rfl ?_
        iterate 2 refine va rfl rfl ?_
        refine q_nil (k_then (wc_seq (wc_regionL ?_)))
        refine vm rfl rfl ?_
        refine wl_val (ov_field0 (off := 0) fo36_0 rfl) rfl rfl rfl ?_
        refine wl_val (ov_loadAt oc22 rfl hb_g2 rfl) rfl rfl rfl ?_
        refine wl_val (ov_neq rfl rfl) rfl rfl rfl ?_
        refine wl_spell (d := 76) rfl (bf (by rw [hopw]; show ¬ ((a.op.toNat : Int) ≠ a.op); omega)) ?_
        refine vm rfl rfl ?_
        refine wl_gval (ov_move rfl) rfl rfl rfl rfl rfl ?_
        refine wl_gval (ov_neq rfl rfl) rfl rfl rfl rfl rfl ?_
        refine wl_spell (d := 79) rfl (bf (by rw [hopw]; exact fun h => h rfl)) ?_
        refine wl_val (ov_pick_f rfl rfl) rfl rfl rfl ?_
        refine q_nil (k_then ?_)
        refine wc_cond_f rfl ?_
        refine q_skip (k_then (wc_seq (wc_regionL ?_)))
        refine wl_step (or_call0 cl9 rfl rfl (known07_any _ (hW.ext hE))) rfl rfl rfl ?_
        rintro v w212 ⟨rfl, he81⟩
        replace hK := hK.ext he81
        replace hV := hV.ext he81
        replace hT := hT.ext he81
        replace hr := hr.ext he81
        replace hE := hE.tr he81
        replace hb_g2 := hb_g2.ext he81
        replace hb_g3 := hb_g3.ext he81
        replace ho24 := Own.ext ho24 he81
        replace hb_g5 := hb_g5.ext he81
        replace hK44 := hK44.ext he81
        replace hV44 := hV44.ext he81
        replace hT44 := hT44.ext he81
        replace hb_g7 := hb_g7.ext he81
        have hz_he81 := he81.size
        refine va rfl rfl ?_
        refine q_nil (k_then (q_ret ?_))
        refine e_ret rfl rfl ?_
        exact ⟨rfl, hE⟩
      · refine q_skip (k_then (wc_seq (wc_regionL ?_)))
        refine wl_step (or_call0 cl9 rfl rfl (known07_any _ (hW.ext hE))) rfl rfl rfl ?_
        rintro v w212 ⟨rfl, he81⟩
        replace hK := hK.ext he81
        replace hV := hV.ext he81
        replace hT := hT.ext he81
        replace hr := hr.ext he81
        replace hE := hE.tr he81
        replace hb_g2 := hb_g2.ext he81
        replace hb_g3 := hb_g3.ext he81
        replace ho24 := Own.ext ho24 he81
        replace hb_g5 := hb_g5.ext he81
        replace hK44 := hK44.ext he81
        replace hV44 := hV44.ext he81
        replace hT44 := hT44.ext he81
        replace hb_g7 := hb_g7.ext he81
        have hz_he81 := he81.size
        refine va rfl rfl ?_
        refine q_nil (k_then (q_ret ?_))
        refine e_ret rfl rfl ?_
        exact ⟨rfl, hE⟩

theorem requestHolds_c (w : World) (hW : WordsAt w) (a : Cmd) (lo hi : Nat) (K : Option Addr) (ck : Nat) (V : Option Addr) (cv : Nat) (T : Option Addr) (ct : Nat) (hK : RdS w lo hi K ck a.keys) (hV : RdB w lo hi V cv a.value) (hT : RdS w lo hi T ct a.tags) (hoa : CmdOK a) (lo2 hi2 : Nat) (x : UInt8) (A : Option Addr) (c : Nat) (l : List UInt8) (hr : RdB w lo2 hi2 A c l) (ha : lightC a = true) (hv : rvalid a = false) :
    Fn Tryd.prog 8 #[(.agg #[(.int .i64 a.op), (.string (strB a.key)), (.slice K a.keys.length ck), (.slice V a.value.length cv), (.slice T a.tags.length ct), (.int .u64 (↑a.life : Int)), (.int .u64 (↑a.ver : Int)), (.string (strB a.tag)), (.string (strB a.pre)), (.string (strB a.child))]), (.agg #[(.int .u8 (↑x.toNat : Int)), (.slice A l.length c)])] w (fun v w' => v = .bool true ∧ Ext w w')  := by
  replace hK := hK.top
  replace hV := hV.top
  replace hT := hT.top
  replace hr := hr.top
  have hE := ext_refl w
  obtain ⟨hsa, hta, hka, hva⟩ := light_sz ha
  have hwr : wrC a = ((0, []), 2) := by rw [wrC_eq hoa.life hoa.ver, if_neg (by rw [hv]; decide)]
  refine fn_enter (args := [(.agg #[(.int .i64 a.op), (.string (strB a.key)), (.slice K a.keys.length ck), (.slice V a.value.length cv), (.slice T a.tags.length ct), (.int .u64 (↑a.life : Int)), (.int .u64 (↑a.ver : Int)), (.string (strB a.tag)), (.string (strB a.pre)), (.string (strB a.child))]), (.agg #[(.int .u8 (↑x.toNat : Int)), (.slice A l.length c)])]) Tryd.func8 rfl rfl rfl ?_
  show WC _ _ _ _ [(0, (.agg #[(.int .i64 a.op), (.string (strB a.key)), (.slice K a.keys.length ck), (.slice V a.value.length cv), (.slice T a.tags.length ct), (.int .u64 (↑a.life : Int)), (.int .u64 (↑a.ver : Int)), (.string (strB a.tag)), (.string (strB a.pre)), (.string (strB a.child))])), (1, (.agg #[(.int .u8 (↑x.toNat : Int)), (.slice A l.length c)]))] _
  refine wc_seq (wc_regionL ?_)
  refine wl_step (or_box (cs := [(.int .i64 a.op), (.string (strB a.key)), (.slice K a.keys.length ck), (.slice V a.value.length cv), (.slice T a.tags.length ct), (.int .u64 (↑a.life : Int)), (.int .u64 (↑a.ver : Int)), (.string (strB a.tag)), (.string (strB a.pre)), (.string (strB a.child))]) rfl rfl) rfl rfl rfl ?_
  rintro v w1 ⟨g2, rfl, hb_g2, he2, hl2, hu2⟩
  replace hK := hK.ext he2
  replace hV := hV.ext he2
  replace hT := hT.ext he2
  replace hr := hr.ext he2
  replace hE := hE.tr he2
  have hz_he2 := he2.size
  refine wl_step (or_box (cs := [(.int .u8 (↑x.toNat : Int)), (.slice A l.length c)]) rfl rfl) rfl rfl rfl ?_
  rintro v w2 ⟨g3, rfl, hb_g3, he3, hl3, hu3⟩
  replace hK := hK.ext he3
  replace hV := hV.ext he3
  replace hT := hT.ext he3
  replace hr := hr.ext he3
  replace hE := hE.tr he3
  replace hb_g2 := hb_g2.ext he3
  have hz_he3 := he3.size
  refine va rfl rfl ?_
  refine q_nil (k_then (wc_seq (wc_seq (wc_regionL ?_))))
  refine wl_val (ov_loadBlk (cs := [(.int .i64 a.op), (.string (strB a.key)), (.slice K a.keys.length ck), (.slice V a.value.length cv), (.slice T a.tags.length ct), (.int .u64 (↑a.life : Int)), (.int .u64 (↑a.ver : Int)), (.string (strB a.tag)), (.string (strB a.pre)), (.string (strB a.child))]) ag36_10 rfl hb_g2) rfl rfl rfl ?_
  refine wl_step (or_call0 cl13 rfl rfl (light_any _ a _ _ K ck V cv T ct hK hV hT hoa)) rfl rfl rfl ?_
  rintro v w3 ⟨rfl, he13⟩
  replace hK := hK.ext he13
  replace hV := hV.ext he13
  replace hT := hT.ext he13
  replace hr := hr.ext he13
  replace hE := hE.tr he13
  replace hb_g2 := hb_g2.ext he13
  replace hb_g3 := hb_g3.ext he13
  have hz_he13 := he13.size
  refine wl_spell (d := 13) rfl (v' := (.bool true)) (by rw [ha]) ?_
  refine wl_val (ov_not (b := true) rfl) rfl rfl rfl ?_
  refine vm rfl rfl ?_
  refine wl_gval (ov_field0 (off := 1) fo40_1 rfl) rfl rfl rfl rfl rfl ?_
  refine wl_gval (ov_loadAt oc32 rfl hb_g3 rfl) rfl rfl rfl rfl rfl ?_
  refine wl_gval (ov_len Tryd.underlying32 rfl) rfl rfl rfl rfl rfl ?_
  refine wl_gval (ov_gtr rfl rfl) rfl rfl rfl rfl rfl ?_
  refine wl_val (ov_pick_f rfl rfl) rfl rfl rfl ?_
  refine q_nil (k_then ?_)
  refine wc_cond_d rfl (fun hc1 => ?_) (fun hc1 => ?_)
  · refine wc_seq (wc_regionL ?_)
    refine wl_step (or_call0 cl9 rfl rfl (known07_any _ (hW.ext hE))) rfl rfl rfl ?_
    rintro v w4 ⟨rfl, he21⟩
    replace hK := hK.ext he21
    replace hV := hV.ext he21
    replace hT := hT.ext he21
    replace hr := hr.ext he21
    replace hE := hE.tr he21
    replace hb_g2 := hb_g2.ext he21
    replace hb_g3 := hb_g3.ext he21
    have hz_he21 := he21.size
    refine va rfl rfl ?_
    refine q_nil (k_then (q_ret (k_thenR ?_)))
    refine e_ret rfl rfl ?_
    exact ⟨rfl, hE⟩
  · refine q_skip (k_then (wc_seq (wc_regionL ?_)))
    refine wl_val (ov_loadBlk (cs := [(.int .i64 a.op), (.string (strB a.key)), (.slice K a.keys.length ck), (.slice V a.value.length cv), (.slice T a.tags.length ct), (.int .u64 (↑a.life : Int)), (.int .u64 (↑a.ver : Int)), (.string (strB a.tag)), (.string (strB a.pre)), (.string (strB a.child))]) ag36_10 rfl hb_g2) rfl rfl rfl ?_
    refine wl_step (or_call0 cl17 rfl rfl (wwrite_any _ a _ _ K ck V cv T ct hK hV hT hoa.life hoa.ver hsa)) rfl rfl rfl ?_
    rintro v w204 ⟨A24, c24, rfl, ho24, he24⟩
    replace hK := hK.ext he24
    replace hV := hV.ext he24
    replace hT := hT.ext he24
    replace hr := hr.ext he24
    replace hE := hE.tr he24
    replace hb_g2 := hb_g2.ext he24
    replace hb_g3 := hb_g3.ext he24
    have hz_he24 := he24.size
    have hq_ho24 := fun g e => Own.lt ho24 (g := g) e
    refine vm rfl rfl ?_
    iterate 2 refine vx rfl rfl rfl ?_
    refine wl_step (or_alloc (cs := [(.int .u8 0), (.slice none 0 0)]) ze40 rfl) rfl rfl rfl ?_
    rintro v w205 ⟨g5, rfl, hb_g5, he5, hl5, hu5⟩
    replace hK := hK.ext he5
    replace hV := hV.ext he5
    replace hT := hT.ext he5
    replace hr := hr.ext he5
    replace hE := hE.tr he5
    replace hb_g2 := hb_g2.ext he5
    replace hb_g3 := hb_g3.ext he5
    replace ho24 := Own.ext ho24 he5
    have hz_he5 := he5.size
    refine wl_step0 (or_storeBlk (vs := [(.int .u8 (↑(wrC a).1.1.toNat : Int)), (.slice A24 (wrC a).1.2.length c24)]) sz40 rfl rfl (by simp [Value.oneCell']) hb_g5 rfl) rfl rfl ?_
    rintro _ w206 ⟨hN206, hg206⟩
    have hz_hg206 := hg206.size
    replace hK := hK.gr hg206 (fun _ e => by cases e; omega)
    replace hV := hV.gr hg206 (fun _ e => by cases e; omega)
    replace hT := hT.gr hg206 (fun _ e => by cases e; omega)
    replace hr := hr.gr hg206 (fun _ e => by cases e; omega)
    replace hE := hE.gr hg206 (fun _ e => by cases e; omega)
    replace hb_g2 := hb_g2.gr hg206 (by intro e; cases e; omega)
    replace hb_g3 := hb_g3.gr hg206 (by intro e; cases e; omega)
    replace ho24 := Own.gr ho24 hg206 (by first | exact .inl rfl | (right; intro e; first | (have := hq_ho24 _ e; omega) | (have := Own.lt ho24 e; omega) | exact own_blk_ne ho24 hb_g5 (by decide) e))
    replace hb_g5 := hN206
    refine va rfl rfl ?_
    refine q_nil (k_then (wc_seq (wc_seq (wc_regionL ?_))))
    refine vm rfl rfl ?_
    refine ve rfl rfl rfl ?_
    refine wl_spell (d := 28) rfl (bf (by rw [hwr]; decide)) ?_
    refine wl_val (ov_loadBlk (cs := [(.int .i64 a.op), (.string (strB a.key)), (.slice K a.keys.length ck), (.slice V a.value.length cv), (.slice T a.tags.length ct), (.int .u64 (↑a.life : Int)), (.int .u64 (↑a.ver : Int)), (.string (strB a.tag)), (.string (strB a.pre)), (.string (strB a.child))]) ag36_10 rfl hb_g2) rfl rfl rfl ?_
    refine wl_step (or_call0 cl25 rfl rfl (wvalid_ref _ a _ _ K ck V cv T ct hK hV hT hoa.life hoa.ver hsa)) rfl rfl rfl ?_
    rintro v w207 ⟨rfl, he30⟩
    replace hK := hK.ext he30
    replace hV := hV.ext he30
    replace hT := hT.ext he30
    replace hr := hr.ext he30
    replace hE := hE.tr he30
    replace hb_g2 := hb_g2.ext he30
    replace hb_g3 := hb_g3.ext he30
    replace ho24 := Own.ext ho24 he30
    replace hb_g5 := hb_g5.ext he30
    have hz_he30 := he30.size
    refine wl_spell (d := 30) rfl (v' := (.bool false)) (by rw [hv]) ?_
    refine wl_val (ov_neb Tryd.underlying4 rfl rfl) rfl rfl rfl ?_
    refine wl_spell (d := 31) rfl (v' := (.bool false)) (rfl) ?_
    refine vm rfl rfl ?_
    refine wl_gval (ov_move rfl) rfl rfl rfl rfl rfl ?_
    refine wl_gval (ov_eql rfl rfl) rfl rfl rfl rfl rfl ?_
    refine wl_spell (d := 34) rfl (bf (by rw [hwr]; decide)) ?_
    refine wl_gval (ov_move rfl) rfl rfl rfl rfl rfl ?_
    iterate 4 refine wl_gskip rfl rfl rfl rfl rfl rfl ?_
    refine wl_gval (ov_pick_f rfl rfl) rfl rfl rfl rfl rfl ?_
    refine wl_val (ov_pick_f rfl rfl) rfl rfl rfl ?_
    refine q_nil (k_then ?_)
    refine wc_cond_f rfl ?_
    refine q_skip (k_then (wc_seq (wc_seq (wc_regionL ?_))))
    refine wl_val (ov_loadBlk (cs := [(.int .u8 (↑x.toNat : Int)), (.slice A l.length c)]) ag40_2 rfl hb_g3) rfl rfl rfl ?_
    refine wl_step (or_call0 cl24 rfl rfl (rread_any _ x _ _ A c l hr (by first | omega | decide | (simp; done)))) rfl rfl rfl ?_
    rintro v w208 ⟨K44, ck44, V44, cv44, T44, ct44, rfl, hK44, hV44, hT44, he44⟩
    replace hK := hK.ext he44
    replace hV := hV.ext he44
    replace hT := hT.ext he44
    replace hr := hr.ext he44
    replace hE := hE.tr he44
    replace hb_g2 := hb_g2.ext he44
    replace hb_g3 := hb_g3.ext he44
    replace ho24 := Own.ext ho24 he44
    replace hb_g5 := hb_g5.ext he44
    have hz_he44 := he44.size
    refine vm rfl rfl ?_
    iterate 2 refine vx rfl rfl rfl ?_
    refine wl_step (or_alloc (cs := [(.int .i64 0), (.string (strB [])), (.slice none 0 0), (.slice none 0 0), (.slice none 0 0), (.int .u64 0), (.int .u64 0), (.string (strB [])), (.string (strB [])), (.string (strB []))]) ze36 rfl) rfl rfl rfl ?_
    rintro v w209 ⟨g7, rfl, hb_g7, he7, hl7, hu7⟩
    replace hK := hK.ext he7
    replace hV := hV.ext he7
    replace hT := hT.ext he7
    replace hr := hr.ext he7
    replace hE := hE.tr he7
    replace hb_g2 := hb_g2.ext he7
    replace hb_g3 := hb_g3.ext he7
    replace ho24 := Own.ext ho24 he7
    replace hb_g5 := hb_g5.ext he7
    replace hK44 := hK44.ext he7
    replace hV44 := hV44.ext he7
    replace hT44 := hT44.ext he7
    have hz_he7 := he7.size
    refine wl_step0 (or_storeBlk (vs := [(.int .i64 (rdC x l).1.op), (.string (strB (rdC x l).1.key)), (.slice K44 (rdC x l).1.keys.length ck44), (.slice V44 (rdC x l).1.value.length cv44), (.slice T44 (rdC x l).1.tags.length ct44), (.int .u64 (↑(rdC x l).1.life : Int)), (.int .u64 (↑(rdC x l).1.ver : Int)), (.string (strB (rdC x l).1.tag)), (.string (strB (rdC x l).1.pre)), (.string (strB (rdC x l).1.child))]) sz36 rfl rfl (by simp [Value.oneCell']) hb_g7 rfl) rfl rfl ?_
    rintro _ w210 ⟨hN210, hg210⟩
    have hz_hg210 := hg210.size
    replace hK := hK.gr hg210 (fun _ e => by cases e; omega)
    replace hV := hV.gr hg210 (fun _ e => by cases e; omega)
    replace hT := hT.gr hg210 (fun _ e => by cases e; omega)
    replace hr := hr.gr hg210 (fun _ e => by cases e; omega)
    replace hE := hE.gr hg210 (fun _ e => by cases e; omega)
    replace hb_g2 := hb_g2.gr hg210 (by intro e; cases e; omega)
    replace hb_g3 := hb_g3.gr hg210 (by intro e; cases e; omega)
    replace ho24 := Own.gr ho24 hg210 (by first | exact .inl rfl | (right; intro e; first | (have := hq_ho24 _ e; omega) | (have := Own.lt ho24 e; omega) | exact own_blk_ne ho24 hb_g7 (by decide) e))
    replace hb_g5 := hb_g5.gr hg210 (by intro e; cases e; omega)
    replace hK44 := hK44.gr hg210 (fun _ e => by cases e; omega)
    replace hV44 := hV44.gr hg210 (fun _ e => by cases e; omega)
    replace hT44 := hT44.gr hg210 (fun _ e => by cases e; omega)
    replace hb_g7 := hN210
    refine va rfl rfl ?_
    refine q_nil (k_then (wc_seq (wc_regionL ?_)))
    refine vm rfl rfl ?_
    refine ve rfl rfl rfl ?_
    refine wl_case_d (d := 48) rfl (fun h48 => ?_) (fun h48 => ?_)
    · obtain ⟨y, hy, hrd⟩ := rd_some (x := x) (l := l) (by omega)
      obtain ⟨hyv, hyc, hyo⟩ := ref_inv hy
      obtain ⟨hyl, hyr⟩ := ref_nums hy
      have hys := ref_sz hy
      have hyw : wrC y = ((x, l), 0) := by rw [wrC_eq hyl hyr, if_pos hyv, hyc, hyo]
      have hrd1 : (rdC x l).1 = y := by rw [hrd]
      have hcs1 : (rdC x l).1.life < 18446744073709551616 := by rw [hrd1]; exact hyl
      have hcs2 : (rdC x l).1.ver < 18446744073709551616 := by rw [hrd1]; exact hyr
      have hcs3 : csz (rdC x l).1 ≤ 17592186044416 := by rw [hrd1]; omega
      refine vm rfl rfl ?_
      refine wl_gval (ov_loadBlk (cs := [(.int .i64 (rdC x l).1.op), (.string (strB (rdC x l).1.key)), (.slice K44 (rdC x l).1.keys.length ck44), (.slice V44 (rdC x l).1.value.length cv44), (.slice T44 (rdC x l).1.tags.length ct44), (.int .u64 (↑(rdC x l).1.life : Int)), (.int .u64 (↑(rdC x l).1.ver : Int)), (.string (strB (rdC x l).1.tag)), (.string (strB (rdC x l).1.pre)), (.string (strB (rdC x l).1.child))]) ag36_10 rfl hb_g7) rfl rfl rfl rfl rfl ?_
      refine wl_gstep (or_call0 cl25 rfl rfl (wvalid_ref _ (rdC x l).1 _ _ K44 ck44 V44 cv44 T44 ct44 hK44 hV44 hT44 hcs1 hcs2 hcs3)) rfl rfl rfl rfl rfl ?_
      rintro v w211 ⟨rfl, he51⟩
      replace hK := hK.ext he51
      replace hV := hV.ext he51
      replace hT := hT.ext he51
      replace hr := hr.ext he51
      replace hE := hE.tr he51
      replace hb_g2 := hb_g2.ext he51
      replace hb_g3 := hb_g3.ext he51
      replace ho24 := Own.ext ho24 he51
      replace hb_g5 := hb_g5.ext he51
      replace hK44 := hK44.ext he51
      replace hV44 := hV44.ext he51
      replace hT44 := hT44.ext he51
      replace hb_g7 := hb_g7.ext he51
      have hz_he51 := he51.size
      refine wl_spell (d := 51) rfl (v' := (.bool true)) (by rw [hrd1, hyv]) ?_
      refine wl_gval (ov_not (b := true) rfl) rfl rfl rfl rfl rfl ?_
      refine wl_gval (ov_move rfl) rfl rfl rfl rfl rfl ?_
      refine wl_gval (ov_loadBlk (cs := [(.int .i64 (rdC x l).1.op), (.string (strB (rdC x l).1.key)), (.slice K44 (rdC x l).1.keys.length ck44), (.slice V44 (rdC x l).1.value.length cv44), (.slice T44 (rdC x l).1.tags.length ct44), (.int .u64 (↑(rdC x l).1.life : Int)), (.int .u64 (↑(rdC x l).1.ver : Int)), (.string (strB (rdC x l).1.tag)), (.string (strB (rdC x l).1.pre)), (.string (strB (rdC x l).1.child))]) ag36_10 rfl hb_g7) rfl rfl rfl rfl rfl ?_
      refine wl_gval (ov_loadBlk (cs := [(.int .u8 (↑x.toNat : Int)), (.slice A l.length c)]) ag40_2 rfl hb_g3) rfl rfl rfl rfl rfl ?_
      refine wl_gstep (or_call0 cl15 rfl rfl (lwrites_any _ (rdC x l).1 _ _ K44 ck44 V44 cv44 T44 ct44 hK44 hV44 hT44 _ _ (x) _ _ l hr 0 _ (by rfl) hcs1 hcs2 hcs3 (by rw [hrd1]; exact hyw))) rfl rfl rfl rfl rfl ?_
      rintro v w212 ⟨rfl, he56⟩
      replace hK := hK.ext he56
      replace hV := hV.ext he56
      replace hT := hT.ext he56
      replace hr := hr.ext he56
      replace hE := hE.tr he56
      replace hb_g2 := hb_g2.ext he56
      replace hb_g3 := hb_g3.ext he56
      replace ho24 := Own.ext ho24 he56
      replace hb_g5 := hb_g5.ext he56
      replace hK44 := hK44.ext he56
      replace hV44 := hV44.ext he56
      replace hT44 := hT44.ext he56
      replace hb_g7 := hb_g7.ext he56
      have hz_he56 := he56.size
      refine wl_gval (ov_not (b := true) rfl) rfl rfl rfl rfl rfl ?_
      refine wl_gval (ov_pick_f rfl rfl) rfl rfl rfl rfl rfl ?_
      refine wl_val (ov_pick_t rfl rfl) rfl rfl rfl ?_
      refine q_nil (k_then ?_)
      refine wc_cond_f rfl ?_
      refine q_skip (k_then (wc_seq (wc_regionL ?_)))
      refine wl_val (ov_field0 (off := 0) fo36_0 rfl) rfl rfl rfl ?_
      refine wl_val (ov_loadAt oc22 rfl hb_g2 rfl) rfl rfl rfl ?_
      refine wl_val (or_call0 cl10 rfl rfl (word_any _ a.op (hW.ext hE))) rfl rfl rfl ?_
      refine vm rfl rfl ?_
      iterate 2 refine vx rfl rfl rfl ?_
      iterate 2 refine va rfl rfl ?_
      refine q_nil (k_then (wc_seq (wc_seq (wc_regionL ?_))))
      refine vm rfl rfl ?_
      refine ve rfl rfl rfl ?_
      refine q_nil (k_then ?_)
      refine wc_cond_d rfl (fun hc4 => ?_) (fun hc4 => ?_)
      · obtain ⟨hop1, hop2⟩ := word_in (op := a.op) (by omega)
        have hopw := op_word hop1 hop2
        refine wc_seq (wc_regionL ?_)
        refine vm rfl rfl ?_
        refine wl_val (or_call0 cl12 rfl rfl (op_any _ (wordC a.op).1 (hW.ext hE))) rfl rfl rfl ?_
        refine vm rfl rfl ?_
        iterate 2 refine vx rfl rfl rfl ?_
        iterate 2 refine va rfl rfl ?_
        refine q_nil (k_then (wc_seq (wc_regionL ?_)))
        refine vm rfl rfl ?_
        refine wl_val (ov_field0 (off := 0) fo36_0 rfl) rfl rfl rfl ?_
        refine wl_val (ov_loadAt oc22 rfl hb_g2 rfl) rfl rfl rfl ?_
        refine wl_val (ov_neq rfl rfl) rfl rfl rfl ?_
        refine wl_spell (d := 76) rfl (bf (by rw [hopw]; show ¬ ((a.op.toNat : Int) ≠ a.op); omega)) ?_
        refine vm rfl rfl ?_
        refine wl_gval (ov_move rfl) rfl rfl rfl rfl rfl ?_
        refine wl_gval (ov_neq rfl rfl) rfl rfl rfl rfl rfl ?_
        refine wl_spell (d := 79) rfl (bf (by rw [hopw]; exact fun h => h rfl)) ?_
        refine wl_val (ov_pick_f rfl rfl) rfl rfl rfl ?_
        refine q_nil (k_then ?_)
        refine wc_cond_f rfl ?_
        refine q_skip (k_then (wc_seq (wc_regionL ?_)))
        refine wl_step (or_call0 cl9 rfl rfl (known07_any _ (hW.ext hE))) rfl rfl rfl ?_
        rintro v w213 ⟨rfl, he81⟩
        replace hK := hK.ext he81
        replace hV := hV.ext he81
        replace hT := hT.ext he81
        replace hr := hr.ext he81
        replace hE := hE.tr he81
        replace hb_g2 := hb_g2.ext he81
        replace hb_g3 := hb_g3.ext he81
        replace ho24 := Own.ext ho24 he81
        replace hb_g5 := hb_g5.ext he81
        replace hK44 := hK44.ext he81
        replace hV44 := hV44.ext he81
        replace hT44 := hT44.ext he81
        replace hb_g7 := hb_g7.ext he81
        have hz_he81 := he81.size
        refine va rfl rfl ?_
        refine q_nil (k_then (q_ret ?_))
        refine e_ret rfl rfl ?_
        exact ⟨rfl, hE⟩
      · refine q_skip (k_then (wc_seq (wc_regionL ?_)))
        refine wl_step (or_call0 cl9 rfl rfl (known07_any _ (hW.ext hE))) rfl rfl rfl ?_
        rintro v w213 ⟨rfl, he81⟩
        replace hK := hK.ext he81
        replace hV := hV.ext he81
        replace hT := hT.ext he81
        replace hr := hr.ext he81
        replace hE := hE.tr he81
        replace hb_g2 := hb_g2.ext he81
        replace hb_g3 := hb_g3.ext he81
        replace ho24 := Own.ext ho24 he81
        replace hb_g5 := hb_g5.ext he81
        replace hK44 := hK44.ext he81
        replace hV44 := hV44.ext he81
        replace hT44 := hT44.ext he81
        replace hb_g7 := hb_g7.ext he81
        have hz_he81 := he81.size
        refine va rfl rfl ?_
        refine q_nil (k_then (q_ret ?_))
        refine e_ret rfl rfl ?_
        exact ⟨rfl, hE⟩
    · refine vm rfl rfl ?_
      iterate 4 refine wl_gskip rfl rfl rfl rfl rfl rfl ?_
      iterate 4 refine wl_gskipU rfl rfl rfl rfl rfl ?_
      refine wl_gskip rfl rfl rfl rfl rfl rfl ?_
      refine wl_val (ov_pick_f rfl rfl) rfl rfl rfl ?_
      refine q_nil (k_then ?_)
      refine wc_cond_f rfl ?_
      refine q_skip (k_then (wc_seq (wc_regionL ?_)))
      refine wl_val (ov_field0 (off := 0) fo36_0 rfl) rfl rfl rfl ?_
      refine wl_val (ov_loadAt oc22 rfl hb_g2 rfl) rfl rfl rfl ?_
      refine wl_val (or_call0 cl10 rfl rfl (word_any _ a.op (hW.ext hE))) rfl rfl rfl ?_
      refine vm rfl rfl ?_
      iterate 2 refine vx rfl rfl rfl ?_
      iterate 2 refine va rfl rfl ?_
      refine q_nil (k_then (wc_seq (wc_seq (wc_regionL ?_))))
      refine vm rfl rfl ?_
      refine ve rfl rfl rfl ?_
      refine q_nil (k_then ?_)
      refine wc_cond_d rfl (fun hc4 => ?_) (fun hc4 => ?_)
      · obtain ⟨hop1, hop2⟩ := word_in (op := a.op) (by omega)
        have hopw := op_word hop1 hop2
        refine wc_seq (wc_regionL ?_)
        refine vm rfl rfl ?_
        refine wl_val (or_call0 cl12 rfl rfl (op_any _ (wordC a.op).1 (hW.ext hE))) rfl rfl rfl ?_
        refine vm rfl rfl ?_
        iterate 2 refine vx rfl rfl rfl ?_
        iterate 2 refine va rfl rfl ?_
        refine q_nil (k_then (wc_seq (wc_regionL ?_)))
        refine vm rfl rfl ?_
        refine wl_val (ov_field0 (off := 0) fo36_0 rfl) rfl rfl rfl ?_
        refine wl_val (ov_loadAt oc22 rfl hb_g2 rfl) rfl rfl rfl ?_
        refine wl_val (ov_neq rfl rfl) rfl rfl rfl ?_
        refine wl_spell (d := 76) rfl (bf (by rw [hopw]; show ¬ ((a.op.toNat : Int) ≠ a.op); omega)) ?_
        refine vm rfl rfl ?_
        refine wl_gval (ov_move rfl) rfl rfl rfl rfl rfl ?_
        refine wl_gval (ov_neq rfl rfl) rfl rfl rfl rfl rfl ?_
        refine wl_spell (d := 79) rfl (bf (by rw [hopw]; exact fun h => h rfl)) ?_
        refine wl_val (ov_pick_f rfl rfl) rfl rfl rfl ?_
        refine q_nil (k_then ?_)
        refine wc_cond_f rfl ?_
        refine q_skip (k_then (wc_seq (wc_regionL ?_)))
        refine wl_step (or_call0 cl9 rfl rfl (known07_any _ (hW.ext hE))) rfl rfl rfl ?_
        rintro v w211 ⟨rfl, he81⟩
        replace hK := hK.ext he81
        replace hV := hV.ext he81
        replace hT := hT.ext he81
        replace hr := hr.ext he81
        replace hE := hE.tr he81
        replace hb_g2 := hb_g2.ext he81
        replace hb_g3 := hb_g3.ext he81
        replace ho24 := Own.ext ho24 he81
        replace hb_g5 := hb_g5.ext he81
        replace hK44 := hK44.ext he81
        replace hV44 := hV44.ext he81
        replace hT44 := hT44.ext he81
        replace hb_g7 := hb_g7.ext he81
        have hz_he81 := he81.size
        refine va rfl rfl ?_
        refine q_nil (k_then (q_ret ?_))
        refine e_ret rfl rfl ?_
        exact ⟨rfl, hE⟩
      · refine q_skip (k_then (wc_seq (wc_regionL ?_)))
        refine wl_step (or_call0 cl9 rfl rfl (known07_any _ (hW.ext hE))) rfl rfl rfl ?_
        rintro v w211 ⟨rfl, he81⟩
        replace hK := hK.ext he81
        replace hV := hV.ext he81
        replace hT := hT.ext he81
        replace hr := hr.ext he81
        replace hE := hE.tr he81
        replace hb_g2 := hb_g2.ext he81
        replace hb_g3 := hb_g3.ext he81
        replace ho24 := Own.ext ho24 he81
        replace hb_g5 := hb_g5.ext he81
        replace hK44 := hK44.ext he81
        replace hV44 := hV44.ext he81
        replace hT44 := hT44.ext he81
        replace hb_g7 := hb_g7.ext he81
        have hz_he81 := he81.size
        refine va rfl rfl ?_
        refine q_nil (k_then (q_ret ?_))
        refine e_ret rfl rfl ?_
        exact ⟨rfl, hE⟩

theorem requestHolds_walk (w : World) (hW : WordsAt w) (a : Cmd) (lo hi : Nat) (K : Option Addr) (ck : Nat) (V : Option Addr) (cv : Nat) (T : Option Addr) (ct : Nat) (hK : RdS w lo hi K ck a.keys) (hV : RdB w lo hi V cv a.value) (hT : RdS w lo hi T ct a.tags) (hoa : CmdOK a) (lo2 hi2 : Nat) (x : UInt8) (A : Option Addr) (c : Nat) (l : List UInt8) (hr : RdB w lo2 hi2 A c l) :
    Fn Tryd.prog 8 #[.agg (cmdc a K ck V cv T ct).toArray, .agg #[.int .u8 (x.toNat : Int), .slice A l.length c]] w (fun v w' => v = .bool true ∧ Ext w w') := by
  cases ha : lightC a
  · exact requestHolds_a w hW a lo hi K ck V cv T ct hK hV hT hoa lo2 hi2 x A c l hr ha
  · cases hv : rvalid a
    · exact requestHolds_c w hW a lo hi K ck V cv T ct hK hV hT hoa lo2 hi2 x A c l hr ha hv
    · exact requestHolds_b w hW a lo hi K ck V cv T ct hK hV hT hoa lo2 hi2 x A c l hr ha hv

end Go.Proofs.YtohnkjjjejnkpaaDoor
