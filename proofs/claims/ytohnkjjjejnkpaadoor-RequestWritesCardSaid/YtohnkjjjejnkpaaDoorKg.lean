/-
  The spoiling of a copy.
-/
import Derived.Test.YtohnkjjjejnkpaaDoorKc
namespace Go.Proofs.YtohnkjjjejnkpaaDoor
open Go.RowKit
set_option linter.unusedVariables false
set_option maxRecDepth 4000
theorem sz5 : (Tryd.prog.info? 5).map (·.size) = some 1 := by kernel_rfl

/-- Only the blocks of a range, and new ones, have turned. -/
structure Rg (B hi : Nat) (a b : World) : Prop where
  os : b.os = a.os
  tape : b.tape = a.tape
  output : b.output = a.output
  size : a.heap.size ≤ b.heap.size
  block : ∀ k, k < a.heap.size → (k < B ∨ hi ≤ k) → b.heap[k]? = a.heap[k]?
theorem Rg.refl (B hi : Nat) (a : World) : Rg B hi a a := ⟨rfl, rfl, rfl, Nat.le_refl _, fun _ _ _ => rfl⟩
theorem Rg.gr {B hi : Nat} {a b c : World} {row : Option Nat} (h : Rg B hi a b) (k : Gr b c row) (hr : ∀ g, row = some g → (B ≤ g ∧ g < hi) ∨ a.heap.size ≤ g) : Rg B hi a c :=
  ⟨k.os.trans h.os, k.tape.trans h.tape, k.output.trans h.output, Nat.le_trans h.size k.size, fun i hi1 hn =>
    (k.block i (Nat.lt_of_lt_of_le hi1 h.size) (fun e => by rcases hr i e.symm with h1 | h1 <;> omega)).trans (h.block i hi1 hn)⟩
theorem Rg.te {B hi : Nat} {a b c : World} (h : Rg B hi a b) (k : Ext b c) : Rg B hi a c := h.gr k fun g e => by cases e
theorem Rg.rd {B hi lo2 hi2 size n c : Nat} {A : Option Addr} {xs : List Value} {a b : World} (h : Rg B hi a b) (hr : Rd a lo2 hi2 size A n c xs) (hs : hi2 ≤ B ∨ hi ≤ lo2) : Rd b lo2 hi2 size A n c xs :=
  hr.keep fun p h1 h2 h3 => World.cell?_of_block (h.block p.block h3 (by omega))
theorem Rg.bk {B hi g : Nat} {t : TypeId} {cs : List Value} {a b : World} (h : Rg B hi a b) (hb : Blk a g t cs) (hg : g < B ∨ hi ≤ g) : Blk b g t cs := (h.block g hb.lt hg).trans hb
theorem Rg.e0 {B hi : Nat} {w a b : World} (h : Rg B hi a b) (he : Ext w a) (hB : w.heap.size ≤ B) : Ext w b :=
  ⟨h.os.trans he.os, h.tape.trans he.tape, h.output.trans he.output, Nat.le_trans he.size h.size, fun i hi1 _ => (h.block i (Nat.lt_of_lt_of_le hi1 he.size) (.inl (by omega))).trans (he.block i hi1 (by simp))⟩
section
variable {P : Program} {L : Env} {w : World} {d : Option Nat} {ty : TypeId} {pos : String} {aft : Array Edge} {gd : Option (Nat × Bool)}
theorem or_storeOwnS {t e : TypeId} {x y : Operand} {lo g k n c : Nat} {xs : List Value} {v : Value} (ht : (P.info? t).map (·.size) = some 1) (hx : ev L x = some (.pointer (some ⟨g, k, none⟩))) (hy : ev L y = some v) (h1v : v.oneCell' = true) (hown : Own w lo e 1 (some ⟨g, 0, none⟩) n c xs) (hk : k < n) :
    OpRun P ⟨d, .store t x y, ty, pos, aft, gd⟩ L w fun _ w' => Own w' lo e 1 (some ⟨g, 0, none⟩) n c (xs.set k v) ∧ Gr w w' (some g) := by
  rcases hown.2 with ⟨hv, _⟩ | ⟨g', cap, cur, hv, hb, hh, hnc, hcm, hcs, htk⟩
  · simp at hv
  · simp only [Value.slice.injEq, Option.some.injEq, Addr.mk.injEq] at hv
    obtain ⟨⟨rfl, _⟩, _, rfl⟩ := hv
    have hbk : Blk w g e cur.toList := by unfold Blk; rw [hh]
    have hcl : cur.toList.length = c := by simp [hcs]
    refine (or_storeAt ht hx hy h1v hbk (blt_of (by omega)) rfl).mono ?_
    rintro _ w' ⟨h2, h3⟩
    refine ⟨⟨by rw [List.length_set]; exact hown.1, .inr ⟨g, c, (cur.toList.set k v).toArray, rfl, hb, h2, hnc, hcm, by simp [hcs], ?_⟩⟩, h3⟩
    rw [← htk, Nat.mul_one]
    rw [List.take_set]
end

theorem spoil_any (w : World) (cm : Cmd) (B hi : Nat) (K1 : Option Addr) (k1 : Nat) (V1 : Option Addr) (v1 : Nat) (T1 : Option Addr) (t1 : Nat) (hoK : Own w B 9 1 K1 cm.keys.length k1 (cm.keys.flatMap strc)) (hoV : OwnB w B 5 V1 v1 cm.value) (hoT : Own w B 9 1 T1 cm.tags.length t1 (cm.tags.flatMap strc)) (hsep : ∀ g, blk K1 = some g → blk T1 ≠ some g) (hKb : ∀ g, blk K1 = some g → g < hi) (hVb : ∀ g, blk V1 = some g → g < hi) (hTb : ∀ g, blk T1 = some g → g < hi) (hhi : hi ≤ w.heap.size) (hkl : cm.keys.length ≤ 40) (htl : cm.tags.length ≤ 40) (hvl : cm.value.length ≤ 600) :
    Fn Tryd.prog 19 #[(.agg #[(.int .i64 cm.op), (.string (strB cm.key)), (.slice K1 cm.keys.length k1), (.slice V1 cm.value.length v1), (.slice T1 cm.tags.length t1), (.int .u64 (↑cm.life : Int)), (.int .u64 (↑cm.ver : Int)), (.string (strB cm.tag)), (.string (strB cm.pre)), (.string (strB cm.child))])] w (fun u w' => u = .tuple #[] ∧ Rg B hi w w')  := by
  have hR := Rg.refl B hi w
  have hq_hoV : ∀ g, blk V1 = some g → B ≤ g ∧ g < hi := fun g e => ⟨(Own.lt hoV e).1, hVb g e⟩
  have hq_hoK : ∀ g, blk K1 = some g → B ≤ g ∧ g < hi := fun g e => ⟨(Own.lt hoK e).1, hKb g e⟩
  have hq_hoT : ∀ g, blk T1 = some g → B ≤ g ∧ g < hi := fun g e => ⟨(Own.lt hoT e).1, hTb g e⟩
  refine fn_enter (args := [(.agg #[(.int .i64 cm.op), (.string (strB cm.key)), (.slice K1 cm.keys.length k1), (.slice V1 cm.value.length v1), (.slice T1 cm.tags.length t1), (.int .u64 (↑cm.life : Int)), (.int .u64 (↑cm.ver : Int)), (.string (strB cm.tag)), (.string (strB cm.pre)), (.string (strB cm.child))])]) Tryd.func19 rfl rfl rfl ?_
  show WC _ _ _ _ [(0, (.agg #[(.int .i64 cm.op), (.string (strB cm.key)), (.slice K1 cm.keys.length k1), (.slice V1 cm.value.length v1), (.slice T1 cm.tags.length t1), (.int .u64 (↑cm.life : Int)), (.int .u64 (↑cm.ver : Int)), (.string (strB cm.tag)), (.string (strB cm.pre)), (.string (strB cm.child))]))] _
  refine wc_seq (wc_regionL ?_)
  refine wl_step (or_box (cs := [(.int .i64 cm.op), (.string (strB cm.key)), (.slice K1 cm.keys.length k1), (.slice V1 cm.value.length v1), (.slice T1 cm.tags.length t1), (.int .u64 (↑cm.life : Int)), (.int .u64 (↑cm.ver : Int)), (.string (strB cm.tag)), (.string (strB cm.pre)), (.string (strB cm.child))]) rfl rfl) rfl rfl rfl ?_
  rintro v w1 ⟨g1, rfl, hb_g1, he1, hl1, hu1⟩
  replace hoV := Own.ext hoV he1
  replace hoK := Own.ext hoK he1
  replace hoT := Own.ext hoT he1
  replace hR := Rg.te hR he1
  have hz_he1 := he1.size
  refine q_nil (k_then (wc_seq (wc_seq (wc_regionL ?_))))
  refine wl_val (ov_field0 (off := 3) fo36_3 rfl) rfl rfl rfl ?_
  refine wl_val (ov_loadAt oc32 rfl hb_g1 rfl) rfl rfl rfl ?_
  refine wl_val (ov_len Tryd.underlying32 rfl) rfl rfl rfl ?_
  refine vm rfl rfl ?_
  refine q_nil (k_then ?_)
  have hcap_1 := RdB.cap (OwnB.rd hoV)
  have hbl_1 := hb_g1.lt
  refine wc_block ?_
  refine wc_loop (σ := Nat × List UInt8) (fun s => cm.value.length - s.1) (fun s => [(8, .int .i64 (s.1 : Int)), (1, (.pointer (some ⟨g1, 0, none⟩))), (7, (.int .i64 (↑cm.value.length : Int)))]) (fun s w' => OwnB w' B 5 V1 v1 s.2 ∧ Gr w1 w' (blk V1) ∧ s.2.length = cm.value.length ∧ s.1 ≤ cm.value.length ∧ Blk w' g1 36 [(.int .i64 cm.op), (.string (strB cm.key)), (.slice K1 cm.keys.length k1), (.slice V1 cm.value.length v1), (.slice T1 cm.tags.length t1), (.int .u64 (↑cm.life : Int)), (.int .u64 (↑cm.ver : Int)), (.string (strB cm.tag)), (.string (strB cm.pre)), (.string (strB cm.child))]) (0, cm.value) (⟨hoV, (ext_refl _).row _, rfl, Nat.zero_le _, hb_g1⟩) (⟨rfl, rfl, rfl, trivial⟩) ?_
  rintro ⟨k_1, l_1⟩ w2 ⟨ho_1, hG_1, hL_1, hk_1, hb_g1⟩
  simp only at hL_1 hk_1
  replace ho_1 : OwnB _ _ _ _ _ l_1 := ho_1
  show WC _ _ _ _ [(8, (.int .i64 (↑k_1 : Int))), (1, (.pointer (some ⟨g1, 0, none⟩))), (7, (.int .i64 (↑cm.value.length : Int)))] _
  refine wc_seq (wc_regionL ?_)
  refine wl_val (ov_lss rfl rfl) rfl rfl rfl ?_
  refine q_nil (k_then (wc_seq ?_))
  refine wc_cond_d rfl (fun hc1 => ?_) (fun hc1 => ?_)
  · obtain ⟨g_1, hA_1, hg1_1, hgu_1⟩ := Own.addr ho_1 (by omega)
    subst hA_1
    refine q_skip (k_then (wc_seq (wc_block (wc_seq (wc_regionL ?_)))))
    refine vm rfl rfl ?_
    refine va rfl rfl ?_
    refine q_nil (k_then (wc_regionL ?_))
    refine wl_val (ov_field0 (off := 3) fo36_3 rfl) rfl rfl rfl ?_
    refine wl_val (ov_loadAt oc32 rfl hb_g1 rfl) rfl rfl rfl ?_
    refine vm rfl rfl ?_
    refine wl_val (ov_oindex bt32.s rfl rfl rfl (by omega)) rfl rfl rfl ?_
    refine wl_val (ov_load oc5 rfl (OwnB.cellAt ho_1 (by omega))) rfl rfl rfl ?_
    refine wl_val (ov_add rfl rfl (wu8_succ _)) rfl rfl rfl ?_
    refine wl_val (ov_oindex bt32.s rfl rfl rfl (by omega)) rfl rfl rfl ?_
    refine wl_step0 (or_storeOwn sz5 rfl rfl ho_1 (by omega)) rfl rfl ?_
    rintro _ w3 ⟨ho2_1, hg2_1⟩
    have hz2_1 := hg2_1.size
    replace hb_g1 := hb_g1.gr hg2_1 (by first | (intro e; cases e; have := hq_hoV _ rfl; omega) | exact own_blk_ne ho_1 hb_g1 (by decide))
    refine q_nil (k_block (k_then (wc_regionL ?_)))
    refine wl_val (ov_add rfl rfl (wi64 (by omega) (by omega))) rfl rfl rfl ?_
    refine vm rfl rfl ?_
    refine q_nil ?_
    refine k_loop ((k_1 + 1, l_1.set k_1 ((l_1.getD k_1 0) + 1))) (by show cm.value.length - (k_1 + 1) < cm.value.length - k_1; omega) (⟨rfl, rfl, rfl, trivial⟩) (⟨ho2_1, hG_1.gr hg2_1 (fun g e => .inl e), by show (List.set _ _ _).length = _; rw [List.length_set]; exact hL_1, by show k_1 + 1 ≤ _; omega, hb_g1⟩)
  · have hz_hG_1 := hG_1.size
    replace hoK := Own.gr hoK hG_1 (by first | exact own_apart fun g e g2 e2 => by have := hq_hoK g e; have := hq_hoV g2 e2; omega | exact own_own_ne hoK hoV (by decide))
    replace hoT := Own.gr hoT hG_1 (by first | exact own_apart fun g e g2 e2 => by have := hq_hoT g e; have := hq_hoV g2 e2; omega | exact own_own_ne hoT hoV (by decide))
    replace hR := Rg.gr hR hG_1 (fun g e => by left; have := hq_hoV g e; omega)
    refine q_exit (k_thenX (k_thenX (k_blockE (k_then (wc_seq (wc_seq (wc_regionL ?_)))))))
    refine wl_val (ov_field0 (off := 4) fo36_4 rfl) rfl rfl rfl ?_
    refine wl_val (ov_loadAt oc27 rfl hb_g1 rfl) rfl rfl rfl ?_
    refine wl_val (ov_len Tryd.underlying27 rfl) rfl rfl rfl ?_
    refine vm rfl rfl ?_
    refine q_nil (k_then (wc_block ?_))
    refine wc_loop (σ := Nat) (fun i => cm.tags.length - i) (fun i => [(1, .pointer (some ⟨g1, 0, none⟩)), (21, .int .i64 (cm.tags.length : Int)), (22, .int .i64 (i : Int))]) (fun i w' => i ≤ cm.tags.length ∧ Blk w' g1 36 (cmdc cm K1 k1 V1 v1 T1 t1) ∧ (∃ xs, Own w' B 9 1 T1 cm.tags.length t1 xs) ∧ (∃ xs, Own w' B 9 1 K1 cm.keys.length k1 xs) ∧ Rg B hi w w') (0) (⟨Nat.zero_le _, hb_g1, ⟨_, hoT⟩, ⟨_, hoK⟩, hR⟩) (⟨rfl, rfl, rfl, trivial⟩) ?_
    rintro i wq ⟨hi0, hb_g1, ⟨xsT, hoT⟩, ⟨xsK, hoK⟩, hR⟩
    show WC _ _ _ _ [(1, (.pointer (some ⟨g1, 0, none⟩))), (21, (.int .i64 (↑cm.tags.length : Int))), (22, (.int .i64 (↑i : Int)))] _
    replace hb_g1 : Blk wq g1 36 [(.int .i64 cm.op), (.string (strB cm.key)), (.slice K1 cm.keys.length k1), (.slice V1 cm.value.length v1), (.slice T1 cm.tags.length t1), (.int .u64 (↑cm.life : Int)), (.int .u64 (↑cm.ver : Int)), (.string (strB cm.tag)), (.string (strB cm.pre)), (.string (strB cm.child))] := hb_g1
    refine wc_seq (wc_regionL ?_)
    refine wl_val (ov_lss rfl rfl) rfl rfl rfl ?_
    refine q_nil (k_then (wc_seq ?_))
    refine wc_cond_d rfl (fun hc2 => ?_) (fun hc2 => ?_)
    · obtain ⟨gS, hSA, hgS1, hgSu⟩ := Own.addr hoT (by omega)
      have hSb := hq_hoT gS (by rw [hSA]; rfl)
      have hsS := hsep gS
      subst hSA
      refine q_skip (k_then (wc_seq (wc_block (wc_seq (wc_regionL ?_)))))
      refine vm rfl rfl ?_
      refine va rfl rfl ?_
      refine q_nil (k_then (wc_regionL ?_))
      refine wl_val (ov_field0 (off := 4) fo36_4 rfl) rfl rfl rfl ?_
      refine wl_val (ov_loadAt oc27 rfl hb_g1 rfl) rfl rfl rfl ?_
      refine vm rfl rfl ?_
      refine wl_val (ov_oindex sl27 rfl rfl rfl (by omega)) rfl rfl rfl ?_
      refine wl_step0 (or_storeOwnS sz9 rfl rfl rfl hoT (by omega)) rfl rfl ?_
      rintro _ w203 ⟨hoS, hgS⟩
      replace hb_g1 := hb_g1.gr hgS (by intro e; cases e; omega)
      replace hR := Rg.gr hR hgS (fun _ e => by cases e; left; omega)
      replace hoK := Own.gr hoK hgS (.inr (fun e => hsS e rfl))
      replace hoT := hoS
      refine q_nil (k_block (k_then (wc_regionL ?_)))
      refine wl_val (ov_add rfl rfl (wi64 (by omega) (by omega))) rfl rfl rfl ?_
      refine vm rfl rfl ?_
      refine q_nil ?_
      refine k_loop (i + 1) (by show cm.tags.length - (i + 1) < cm.tags.length - i; omega) (⟨rfl, rfl, rfl, trivial⟩) (⟨by omega, hb_g1, ⟨_, hoT⟩, ⟨_, hoK⟩, hR⟩)
    · refine q_exit (k_thenX (k_thenX (k_blockE (k_then (wc_seq (wc_regionL ?_))))))
      refine wl_val (ov_field0 (off := 2) fo36_2 rfl) rfl rfl rfl ?_
      refine wl_val (ov_loadAt oc27 rfl hb_g1 rfl) rfl rfl rfl ?_
      refine wl_val (ov_len Tryd.underlying27 rfl) rfl rfl rfl ?_
      refine vm rfl rfl ?_
      refine q_nil (k_then (wc_block ?_))
      refine wc_loop (σ := Nat) (fun i => cm.keys.length - i) (fun i => [(1, .pointer (some ⟨g1, 0, none⟩)), (32, .int .i64 (cm.keys.length : Int)), (33, .int .i64 (i : Int))]) (fun i w' => i ≤ cm.keys.length ∧ Blk w' g1 36 (cmdc cm K1 k1 V1 v1 T1 t1) ∧ (∃ xs, Own w' B 9 1 T1 cm.tags.length t1 xs) ∧ (∃ xs, Own w' B 9 1 K1 cm.keys.length k1 xs) ∧ Rg B hi w w') (0) (⟨Nat.zero_le _, hb_g1, ⟨_, hoT⟩, ⟨_, hoK⟩, hR⟩) (⟨rfl, rfl, rfl, trivial⟩) ?_
      rintro i wq ⟨hi0, hb_g1, ⟨xsT, hoT⟩, ⟨xsK, hoK⟩, hR⟩
      show WC _ _ _ _ [(1, (.pointer (some ⟨g1, 0, none⟩))), (32, (.int .i64 (↑cm.keys.length : Int))), (33, (.int .i64 (↑i : Int)))] _
      replace hb_g1 : Blk wq g1 36 [(.int .i64 cm.op), (.string (strB cm.key)), (.slice K1 cm.keys.length k1), (.slice V1 cm.value.length v1), (.slice T1 cm.tags.length t1), (.int .u64 (↑cm.life : Int)), (.int .u64 (↑cm.ver : Int)), (.string (strB cm.tag)), (.string (strB cm.pre)), (.string (strB cm.child))] := hb_g1
      refine wc_seq (wc_regionL ?_)
      refine wl_val (ov_lss rfl rfl) rfl rfl rfl ?_
      refine q_nil (k_then (wc_seq ?_))
      refine wc_cond_d rfl (fun hc3 => ?_) (fun hc3 => ?_)
      · obtain ⟨gS, hSA, hgS1, hgSu⟩ := Own.addr hoK (by omega)
        have hSb := hq_hoK gS (by rw [hSA]; rfl)
        have hsS := hsep gS
        subst hSA
        refine q_skip (k_then (wc_seq (wc_block (wc_seq (wc_regionL ?_)))))
        refine vm rfl rfl ?_
        refine va rfl rfl ?_
        refine q_nil (k_then (wc_regionL ?_))
        refine wl_val (ov_field0 (off := 2) fo36_2 rfl) rfl rfl rfl ?_
        refine wl_val (ov_loadAt oc27 rfl hb_g1 rfl) rfl rfl rfl ?_
        refine vm rfl rfl ?_
        refine wl_val (ov_oindex sl27 rfl rfl rfl (by omega)) rfl rfl rfl ?_
        refine wl_step0 (or_storeOwnS sz9 rfl rfl rfl hoK (by omega)) rfl rfl ?_
        rintro _ w203 ⟨hoS, hgS⟩
        replace hb_g1 := hb_g1.gr hgS (by intro e; cases e; omega)
        replace hR := Rg.gr hR hgS (fun _ e => by cases e; left; omega)
        replace hoT := Own.gr hoT hgS (.inr (fun e => hsS rfl e))
        replace hoK := hoS
        refine q_nil (k_block (k_then (wc_regionL ?_)))
        refine wl_val (ov_add rfl rfl (wi64 (by omega) (by omega))) rfl rfl rfl ?_
        refine vm rfl rfl ?_
        refine q_nil ?_
        refine k_loop (i + 1) (by show cm.keys.length - (i + 1) < cm.keys.length - i; omega) (⟨rfl, rfl, rfl, trivial⟩) (⟨by omega, hb_g1, ⟨_, hoT⟩, ⟨_, hoK⟩, hR⟩)
      · refine q_exit (k_thenX (k_thenX (k_blockE ?_)))
        refine e_end0 rfl ?_
        exact ⟨rfl, hR⟩

end Go.Proofs.YtohnkjjjejnkpaaDoor
