/-
  The reference: parts and commands read.
-/
import Derived.Test.YtohnkjjjejnkpaaDoorQj
import Derived.Test.YtohnkjjjejnkpaaDoorTyp
namespace Go.Proofs.YtohnkjjjejnkpaaDoor
open Go.RowKit
set_option linter.unusedVariables false
set_option maxRecDepth 4000
theorem cl14 : callable Tryd.prog 14 = true := by kernel_rfl
theorem cl34 : callable Tryd.prog 34 = true := by kernel_rfl
theorem cl53 : callable Tryd.prog 53 = true := by kernel_rfl
theorem cl54 : callable Tryd.prog 54 = true := by kernel_rfl
theorem cl55 : callable Tryd.prog 55 = true := by kernel_rfl
theorem cl63 : callable Tryd.prog 63 = true := by kernel_rfl

/-- What the reference reads: a number, a part, strings, a part of a command. -/
def txO (l : List UInt8) : Bool := decide ((vpart l 65536).2.2 = 0)
def txR (l : List UInt8) : List UInt8 := if txO l = true then partR l else []
def nmO (l : List UInt8) : Bool := decide ((vget l).2.2 = 0)
def nmR (l : List UInt8) : List UInt8 := if nmO l = true then numR l else []
def errS : Nat → List UInt8 → Bool
  | 0, _ => false
  | n + 1, l => errS n l || !txO (rS kv n l).2.1
def tsO (l : List UInt8) : Bool := nmO l && decide (numV l ≤ 16) && !errS (numV l) (numR l)
def tsV (l : List UInt8) : List (List UInt8) := if tsO l = true then (rS kv (numV l) (numR l)).1 else []
def tsR (l : List UInt8) : List UInt8 := if tsO l = true then (rS kv (numV l) (numR l)).2.1 else []
theorem errS_mono (l : List UInt8) : ∀ {i n : Nat}, i ≤ n → errS i l = true → errS n l = true
  | i, 0, h, he => by have : i = 0 := by omega
                      subst this; exact he
  | i, n + 1, h, he => by
    by_cases e : i = n + 1
    · subst e; exact he
    · have := errS_mono l (i := i) (n := n) (by omega) he; rw [errS, this]; rfl
theorem rS_flat (n : Nat) (l : List UInt8) : (rS kv (n + 1) l).1.flatMap strc = (rS kv n l).1.flatMap strc ++ [.string (strB (partV (rS kv n l).2.1))] := by
  show ((rS kv n l).1 ++ [partV (rS kv n l).2.1]).flatMap strc = _
  rw [List.flatMap_append]; rfl
theorem nm_bad {l : List UInt8} (h : ¬ (vget l).2.2 = 0) : numV l = 0 ∧ nmO l = false ∧ nmR l = [] := by
  have h2 : nmO l = false := decide_eq_false h
  exact ⟨(vget_bad l h).1, h2, by unfold nmR; rw [h2]; rfl⟩
theorem nm_ok {l : List UInt8} (h : (vget l).2.2 = 0) : nmO l = true ∧ nmR l = numR l := by
  have h2 : nmO l = true := decide_eq_true h
  exact ⟨h2, by unfold nmR; rw [h2]; rfl⟩
theorem tx_bad {l : List UInt8} (h : ¬ (vpart l 65536).2.2 = 0) : partV l = [] ∧ txO l = false ∧ txR l = [] := by
  have h2 : txO l = false := decide_eq_false h
  exact ⟨(vpart_bad0 l 65536 h).1, h2, by unfold txR; rw [h2]; rfl⟩
theorem tx_ok {l : List UInt8} (h : (vpart l 65536).2.2 = 0) : txO l = true ∧ txR l = partR l := by
  have h2 : txO l = true := decide_eq_true h
  exact ⟨h2, by unfold txR; rw [h2]; rfl⟩
theorem ts_bad {l : List UInt8} (h : tsO l = false) : tsV l = [] ∧ tsR l = [] := ⟨by unfold tsV; rw [h]; rfl, by unfold tsR; rw [h]; rfl⟩
theorem ts_ok {l : List UInt8} (h : tsO l = true) : tsV l = (rS kv (numV l) (numR l)).1 ∧ tsR l = (rS kv (numV l) (numR l)).2.1 := ⟨by unfold tsV; rw [h]; rfl, by unfold tsR; rw [h]; rfl⟩
theorem tsV_len (l : List UInt8) : (tsV l).length ≤ 16 := by
  unfold tsV
  split
  · rename_i h; unfold tsO at h; rw [(rS_len kv _ _).1]; simp at h; omega
  · exact Nat.zero_le _
theorem txR_len (l : List UInt8) : (txR l).length ≤ l.length := by have := partR_len l; unfold txR; split <;> simp <;> omega
theorem nmR_len (l : List UInt8) : (nmR l).length ≤ l.length := by have := numR_len l; unfold nmR; split <;> simp <;> omega
theorem tsR_len (l : List UInt8) : (tsR l).length ≤ l.length := by
  have h1 := numR_len l
  have h2 := (rS_len kv (numR l) (numV l)).2
  unfold tsR; split <;> simp <;> omega
def rdS (c : Cmd) (p : UInt8) (l : List UInt8) : Cmd :=
  if p = 107 then { c with key := partV l } else if p = 118 then { c with value := partV l } else if p = 116 then { c with tags := tsV l } else if p = 108 then { c with life := numV l } else if p = 110 then { c with ver := numV l }
  else if p = 109 then { c with keys := tsV l } else if p = 103 then { c with tag := partV l } else if p = 112 then { c with pre := partV l } else if p = 99 then { c with child := partV l } else c
def rdR (p : UInt8) (l : List UInt8) : List UInt8 := if p = 108 ∨ p = 110 then nmR l else if p = 116 ∨ p = 109 then tsR l else txR l
def rdO (p : UInt8) (l : List UInt8) : Bool := if p = 108 ∨ p = 110 then nmO l else if p = 116 ∨ p = 109 then tsO l else txO l
theorem rdR_len (p : UInt8) (l : List UInt8) : (rdR p l).length ≤ l.length := by
  have h1 := nmR_len l
  have h2 := tsR_len l
  have h3 := txR_len l
  unfold rdR; repeat' split
  all_goals assumption
/-- Parts, one after the other. -/
def rr : List UInt8 → Cmd → List UInt8 → Option (Cmd × List UInt8)
  | [], c, l => some (c, l)
  | p :: ps, c, l => if rdO p l = true then rr ps (rdS c p l) (rdR p l) else none
def refRead (code : UInt8) (l : List UInt8) : Option Cmd :=
  match rr (needs (code.toNat : Int)) (cmd0 (code.toNat : Int)) l with
  | none => none
  | some (c, q) => if q.length = 0 ∧ rvalid c = true then some c else none

theorem rtext_any (w : World) (lo hi : Nat) (A : Option Addr) (c : Nat) (l : List UInt8) (hr : RdB w lo hi A c l) (hlen : l.length ≤ 140737488355328) :
    Fn Tryd.prog 55 #[(.slice A l.length c)] w (fun v w' => ∃ A c, v = .tuple #[.string (strB (partV l)), .slice A (txR l).length c, .bool (txO l)] ∧ RdB w' lo hi A c (txR l) ∧ Ext w w')  := by
  have hE := ext_refl w
  refine fn_enter (args := [(.slice A l.length c)]) Tryd.func55 rfl rfl rfl ?_
  show WC _ _ _ _ [(0, (.slice A l.length c))] _
  refine wc_seq (wc_regionL ?_)
  iterate 3 refine va rfl rfl ?_
  refine q_nil (k_then (wc_seq (wc_regionL ?_)))
  refine vm rfl rfl ?_
  refine wl_step (or_call0 cl63 rfl rfl (rgetbytes_any _ _ _ _ _ l 65536 (by omega) hr (by omega))) rfl rfl rfl ?_
  rintro v w1 ⟨A10, c10, rfl, ho10, he10⟩
  replace hr := hr.ext he10
  replace hE := hE.tr he10
  have hz_he10 := he10.size
  have hq_ho10 := fun g e => Own.lt ho10 (g := g) e
  refine vm rfl rfl ?_
  iterate 3 refine vx rfl rfl rfl ?_
  iterate 3 refine va rfl rfl ?_
  refine q_nil (k_then (wc_seq (wc_seq (wc_regionL ?_))))
  refine vm rfl rfl ?_
  refine wl_val (ov_neq rfl rfl) rfl rfl rfl ?_
  refine q_nil (k_then ?_)
  refine wc_cond_d rfl (fun hc1 => ?_) (fun hc1 => ?_)
  · obtain ⟨e1, e2, e3⟩ := tx_bad (l := l) (by omega)
    refine wc_seq (wc_regionL ?_)
    iterate 3 refine va rfl rfl ?_
    refine q_nil (k_then (q_ret (k_thenR ?_)))
    refine e_ret3 rfl rfl rfl rfl ?_
    rw [e1, e2, e3]
    exact ⟨none, 0, rfl, RdB.nil _ _ _, hE⟩
  · obtain ⟨e2, e3⟩ := tx_ok (l := l) (by omega)
    have hvp := vpart_props l 65536
    refine q_skip (k_then (wc_seq ?_))
    refine wc_draw mixed 6 [(16, eqv (.slice A10 (vpart l 65536).1.length c10)), (17, eqv (.string (strB (vpart l 65536).1))), (18, eqv (.slice A l.length c)), (19, eqv (.int .i64 (↑(vpart l 65536).2.1 : Int))), (20, (fun v wz => ∃ A c, v = .slice A (l.drop (vpart l 65536).2.1).length c ∧ RdB wz lo hi A c (l.drop (vpart l 65536).2.1))), (2, eqv (.string (strB (vpart l 65536).1)))] [[], [0], [], [], [2, 3], [1]] [(0, (.slice A l.length c)), (3, (.slice none 0 0)), (4, (.bool false)), (5, (.slice A10 (vpart l 65536).1.length c10)), (6, (.int .i64 (↑(vpart l 65536).2.1 : Int)))] [] [] (Env.sub_get ⟨rfl, rfl, rfl, rfl, rfl, trivial⟩) trivial (by kernel_rfl) rfl ⟨⟨stb_eqv _, fun _ he => by cases he⟩, ⟨stb_eqv _, fun _ he => by cases he⟩, ⟨stb_eqv _, fun _ he => by cases he⟩, ⟨stb_eqv _, fun _ he => by cases he⟩, ⟨(fun v w1 w2 ⟨A, c, hv, ho⟩ he => ⟨A, c, hv, ho.ext he⟩), fun _ he => by cases he⟩, ⟨stb_eqv _, fun _ he => by cases he⟩, trivial⟩ ⟨?_, ?_, ?_, ?_, ?_, ?_, trivial⟩ ?_
    · intro wd hxE
      replace hr := hr.ext hxE
      replace hE := hE.tr hxE
      replace ho10 := Own.ext ho10 hxE
      have hz_hxE := hxE.size
      show OpG _ _ _ _ _ _
      exact og_plain rfl (ox_val (ov_move rfl))
    · intro wd hxE
      replace hr := hr.ext hxE
      replace hE := hE.tr hxE
      replace ho10 := Own.ext ho10 hxE
      have hz_hxE := hxE.size
      rintro _ rfl
      show OpG _ _ _ _ _ _
      exact og_plain rfl (ox_val (ov_bstr bt32 Tryd.underlying9 rfl (OwnB.rd ho10)))
    · intro wd hxE
      replace hr := hr.ext hxE
      replace hE := hE.tr hxE
      replace ho10 := Own.ext ho10 hxE
      have hz_hxE := hxE.size
      show OpG _ _ _ _ _ _
      exact og_plain rfl (ox_val (ov_move rfl))
    · intro wd hxE
      replace hr := hr.ext hxE
      replace hE := hE.tr hxE
      replace ho10 := Own.ext ho10 hxE
      have hz_hxE := hxE.size
      show OpG _ _ _ _ _ _
      exact og_plain rfl (ox_val (ov_move rfl))
    · intro wd hxE
      replace hr := hr.ext hxE
      replace hE := hE.tr hxE
      replace ho10 := Own.ext ho10 hxE
      have hz_hxE := hxE.size
      rintro _ rfl
      rintro _ rfl
      show OpG _ _ _ _ _ _
      have hcap20 := RdB.cap hr
      refine og_plain rfl (OpRun.mono (or_bslice bt32 rfl hr (bounds_l rfl (by omega) (by omega)) (by omega) (by omega) (by omega) (by omega)) ?_)
      rintro v _ ⟨rfl, A20, c20, rfl, hr20, hl20⟩
      have hs20 : (l.drop (Int.toNat (↑(vpart l 65536).2.1 : Int))).take (l.length - (Int.toNat (↑(vpart l 65536).2.1 : Int))) = (l.drop (vpart l 65536).2.1) := cut_l l (by omega)
      rw [hs20] at hr20 hl20; rw [hs20]; clear hs20
      exact ⟨⟨A20, c20, rfl, hr20⟩, ext_refl _⟩
    · intro wd hxE
      replace hr := hr.ext hxE
      replace hE := hE.tr hxE
      replace ho10 := Own.ext ho10 hxE
      have hz_hxE := hxE.size
      rintro _ rfl
      show OpG _ _ _ _ _ _
      exact og_plain rfl (ox_val (ov_assign rfl))
    · intro wf4 hf4
      replace hr := hr.ext hf4
      replace hE := hE.tr hf4
      replace ho10 := Own.ext ho10 hf4
      have hz_hf4 := hf4.size
      rintro _ rfl
      rintro _ rfl
      rintro _ rfl
      rintro _ rfl
      rintro _ ⟨A20, c20, rfl, hr20⟩
      rintro _ rfl
      show WL _ _ _ [_, _] _ _ _
      iterate 2 refine va rfl rfl ?_
      refine q_nil (k_then (q_ret ?_))
      refine e_ret3 rfl rfl rfl rfl ?_
      rw [e2, e3]
      exact ⟨A20, c20, rfl, hr20, hE⟩

theorem rnumber_any (w : World) (lo hi : Nat) (A : Option Addr) (c : Nat) (l : List UInt8) (hr : RdB w lo hi A c l) (hlen : l.length ≤ 140737488355328) :
    Fn Tryd.prog 53 #[(.slice A l.length c)] w (fun v w' => ∃ A c, v = .tuple #[.int .u64 (numV l : Int), .slice A (nmR l).length c, .bool (nmO l)] ∧ RdB w' lo hi A c (nmR l) ∧ Ext w w')  := by
  have hE := ext_refl w
  refine fn_enter (args := [(.slice A l.length c)]) Tryd.func53 rfl rfl rfl ?_
  show WC _ _ _ _ [(0, (.slice A l.length c))] _
  refine wc_seq (wc_regionL ?_)
  iterate 3 refine va rfl rfl ?_
  refine q_nil (k_then (wc_seq (wc_regionL ?_)))
  refine vm rfl rfl ?_
  refine wl_val (or_call0 cl62 rfl rfl (rget_any _ _ _ _ _ l hr)) rfl rfl rfl ?_
  refine vm rfl rfl ?_
  iterate 3 refine vx rfl rfl rfl ?_
  iterate 3 refine va rfl rfl ?_
  refine q_nil (k_then (wc_seq (wc_seq (wc_regionL ?_))))
  refine vm rfl rfl ?_
  refine wl_val (ov_neq rfl rfl) rfl rfl rfl ?_
  refine q_nil (k_then ?_)
  refine wc_cond_d rfl (fun hc1 => ?_) (fun hc1 => ?_)
  · obtain ⟨e1, e2, e3⟩ := nm_bad (l := l) (by omega)
    refine wc_seq (wc_regionL ?_)
    iterate 3 refine va rfl rfl ?_
    refine q_nil (k_then (q_ret (k_thenR ?_)))
    refine e_ret3 rfl rfl rfl rfl ?_
    rw [e1, e2, e3]
    exact ⟨none, 0, rfl, RdB.nil _ _ _, hE⟩
  · obtain ⟨e2, e3⟩ := nm_ok (l := l) (by omega)
    have hvs := vget_size l
    refine q_skip (k_then (wc_seq ?_))
    refine wc_draw mixed 5 [(16, eqv (.int .u64 (↑(vget l).1 : Int))), (17, eqv (.slice A l.length c)), (18, eqv (.int .i64 (↑(vget l).2.1 : Int))), (19, (fun v wz => ∃ A c, v = .slice A (l.drop (vget l).2.1).length c ∧ RdB wz lo hi A c (l.drop (vget l).2.1))), (2, eqv (.int .u64 (↑(vget l).1 : Int)))] [[], [], [], [1, 2], [0]] [(0, (.slice A l.length c)), (3, (.slice none 0 0)), (4, (.bool false)), (5, (.int .u64 (↑(vget l).1 : Int))), (6, (.int .i64 (↑(vget l).2.1 : Int)))] [] [] (Env.sub_get ⟨rfl, rfl, rfl, rfl, rfl, trivial⟩) trivial (by kernel_rfl) rfl ⟨⟨stb_eqv _, fun _ he => by cases he⟩, ⟨stb_eqv _, fun _ he => by cases he⟩, ⟨stb_eqv _, fun _ he => by cases he⟩, ⟨(fun v w1 w2 ⟨A, c, hv, ho⟩ he => ⟨A, c, hv, ho.ext he⟩), fun _ he => by cases he⟩, ⟨stb_eqv _, fun _ he => by cases he⟩, trivial⟩ ⟨?_, ?_, ?_, ?_, ?_, trivial⟩ ?_
    · intro wd hxE
      replace hr := hr.ext hxE
      replace hE := hE.tr hxE
      have hz_hxE := hxE.size
      show OpG _ _ _ _ _ _
      exact og_plain rfl (ox_val (ov_move rfl))
    · intro wd hxE
      replace hr := hr.ext hxE
      replace hE := hE.tr hxE
      have hz_hxE := hxE.size
      show OpG _ _ _ _ _ _
      exact og_plain rfl (ox_val (ov_move rfl))
    · intro wd hxE
      replace hr := hr.ext hxE
      replace hE := hE.tr hxE
      have hz_hxE := hxE.size
      show OpG _ _ _ _ _ _
      exact og_plain rfl (ox_val (ov_move rfl))
    · intro wd hxE
      replace hr := hr.ext hxE
      replace hE := hE.tr hxE
      have hz_hxE := hxE.size
      rintro _ rfl
      rintro _ rfl
      show OpG _ _ _ _ _ _
      have hcap19 := RdB.cap hr
      refine og_plain rfl (OpRun.mono (or_bslice bt32 rfl hr (bounds_l rfl (by omega) (by omega)) (by omega) (by omega) (by omega) (by omega)) ?_)
      rintro v _ ⟨rfl, A19, c19, rfl, hr19, hl19⟩
      have hs19 : (l.drop (Int.toNat (↑(vget l).2.1 : Int))).take (l.length - (Int.toNat (↑(vget l).2.1 : Int))) = (l.drop (vget l).2.1) := cut_l l (by omega)
      rw [hs19] at hr19 hl19; rw [hs19]; clear hs19
      exact ⟨⟨A19, c19, rfl, hr19⟩, ext_refl _⟩
    · intro wd hxE
      replace hr := hr.ext hxE
      replace hE := hE.tr hxE
      have hz_hxE := hxE.size
      rintro _ rfl
      show OpG _ _ _ _ _ _
      exact og_plain rfl (ox_val (ov_assign rfl))
    · intro wf4 hf4
      replace hr := hr.ext hf4
      replace hE := hE.tr hf4
      have hz_hf4 := hf4.size
      rintro _ rfl
      rintro _ rfl
      rintro _ rfl
      rintro _ ⟨A19, c19, rfl, hr19⟩
      rintro _ rfl
      show WL _ _ _ [_, _] _ _ _
      iterate 2 refine va rfl rfl ?_
      refine q_nil (k_then (q_ret ?_))
      refine e_ret3 rfl rfl rfl rfl ?_
      rw [e2, e3]
      exact ⟨A19, c19, rfl, hr19, hE⟩

theorem rtexts_num (w : World) (lo hi : Nat) (A : Option Addr) (c : Nat) (l : List UInt8) (hr : RdB w lo hi A c l) (hlen : l.length ≤ 140737488355328) (hhi : hi ≤ w.heap.size) (hn : nmO l = false) (ho : tsO l = false) :
    Fn Tryd.prog 54 #[(.slice A l.length c)] w (fun v w' => ∃ B d A c, v = .tuple #[.slice B (tsV l).length d, .slice A (tsR l).length c, .bool (tsO l)] ∧ Own w' w.heap.size 9 1 B (tsV l).length d ((tsV l).flatMap strc) ∧ RdB w' lo hi A c (tsR l) ∧ Ext w w')  := by
  have hE := ext_refl w
  refine fn_enter (args := [(.slice A l.length c)]) Tryd.func54 rfl rfl rfl ?_
  show WC _ _ _ _ [(0, (.slice A l.length c))] _
  refine wc_seq (wc_regionL ?_)
  iterate 3 refine va rfl rfl ?_
  refine q_nil (k_then (wc_seq (wc_regionL ?_)))
  refine vm rfl rfl ?_
  refine wl_step (or_call0 cl53 rfl rfl (rnumber_any _ _ _ A c l hr (by omega))) rfl rfl rfl ?_
  rintro v w1 ⟨A14, c14, rfl, hr14, he14⟩
  replace hr := hr.ext he14
  replace hE := hE.tr he14
  have hz_he14 := he14.size
  refine vm rfl rfl ?_
  iterate 3 refine vx rfl rfl rfl ?_
  iterate 3 refine va rfl rfl ?_
  refine q_nil (k_then (wc_seq (wc_seq (wc_regionL ?_))))
  refine vm rfl rfl ?_
  refine wl_spell (d := 18) rfl (v' := (.bool false)) (by rw [hn]; rfl) ?_
  refine wl_val (ov_not (b := false) rfl) rfl rfl rfl ?_
  refine vm rfl rfl ?_
  iterate 2 refine wl_gskip rfl rfl rfl rfl rfl rfl ?_
  refine wl_val (ov_pick_t rfl rfl) rfl rfl rfl ?_
  refine q_nil (k_then ?_)
  refine wc_cond_t rfl ?_
  refine wc_seq (wc_regionL ?_)
  iterate 3 refine va rfl rfl ?_
  refine q_nil (k_then (q_ret (k_thenR ?_)))
  refine e_ret3 rfl rfl rfl rfl ?_
  obtain ⟨e1, e2⟩ := ts_bad ho
  rw [e1, e2, ho]
  exact ⟨none, 0, none, 0, rfl, Own.nil_ _ _ _ _, RdB.nil _ _ _, hE⟩

theorem rtexts_big (w : World) (lo hi : Nat) (A : Option Addr) (c : Nat) (l : List UInt8) (hr : RdB w lo hi A c l) (hlen : l.length ≤ 140737488355328) (hhi : hi ≤ w.heap.size) (hn : nmO l = true) (h16 : 16 < numV l) (ho : tsO l = false) :
    Fn Tryd.prog 54 #[(.slice A l.length c)] w (fun v w' => ∃ B d A c, v = .tuple #[.slice B (tsV l).length d, .slice A (tsR l).length c, .bool (tsO l)] ∧ Own w' w.heap.size 9 1 B (tsV l).length d ((tsV l).flatMap strc) ∧ RdB w' lo hi A c (tsR l) ∧ Ext w w')  := by
  have hE := ext_refl w
  refine fn_enter (args := [(.slice A l.length c)]) Tryd.func54 rfl rfl rfl ?_
  show WC _ _ _ _ [(0, (.slice A l.length c))] _
  refine wc_seq (wc_regionL ?_)
  iterate 3 refine va rfl rfl ?_
  refine q_nil (k_then (wc_seq (wc_regionL ?_)))
  refine vm rfl rfl ?_
  refine wl_step (or_call0 cl53 rfl rfl (rnumber_any _ _ _ A c l hr (by omega))) rfl rfl rfl ?_
  rintro v w1 ⟨A14, c14, rfl, hr14, he14⟩
  replace hr := hr.ext he14
  replace hE := hE.tr he14
  have hz_he14 := he14.size
  refine vm rfl rfl ?_
  iterate 3 refine vx rfl rfl rfl ?_
  iterate 3 refine va rfl rfl ?_
  refine q_nil (k_then (wc_seq (wc_seq (wc_regionL ?_))))
  refine vm rfl rfl ?_
  refine wl_spell (d := 18) rfl (v' := (.bool true)) (by rw [hn]; rfl) ?_
  refine wl_val (ov_not (b := true) rfl) rfl rfl rfl ?_
  refine vm rfl rfl ?_
  refine wl_gval (ov_move rfl) rfl rfl rfl rfl rfl ?_
  refine wl_gval (ov_gtr rfl rfl) rfl rfl rfl rfl rfl ?_
  refine wl_spell (d := 22) rfl (bt (by omega)) ?_
  refine wl_val (ov_pick_f rfl rfl) rfl rfl rfl ?_
  refine q_nil (k_then ?_)
  refine wc_cond_t rfl ?_
  refine wc_seq (wc_regionL ?_)
  iterate 3 refine va rfl rfl ?_
  refine q_nil (k_then (q_ret (k_thenR ?_)))
  refine e_ret3 rfl rfl rfl rfl ?_
  obtain ⟨e1, e2⟩ := ts_bad ho
  rw [e1, e2, ho]
  exact ⟨none, 0, none, 0, rfl, Own.nil_ _ _ _ _, RdB.nil _ _ _, hE⟩

theorem rtexts_run (w : World) (lo hi : Nat) (A : Option Addr) (c : Nat) (l : List UInt8) (hr : RdB w lo hi A c l) (hlen : l.length ≤ 140737488355328) (hhi : hi ≤ w.heap.size) (hn : nmO l = true) (h16 : numV l ≤ 16) (hnr : nmR l = numR l) :
    Fn Tryd.prog 54 #[(.slice A l.length c)] w (fun v w' => ∃ B d A c, v = .tuple #[.slice B (tsV l).length d, .slice A (tsR l).length c, .bool (tsO l)] ∧ Own w' w.heap.size 9 1 B (tsV l).length d ((tsV l).flatMap strc) ∧ RdB w' lo hi A c (tsR l) ∧ Ext w w')  := by
  have hE := ext_refl w
  refine fn_enter (args := [(.slice A l.length c)]) Tryd.func54 rfl rfl rfl ?_
  show WC _ _ _ _ [(0, (.slice A l.length c))] _
  refine wc_seq (wc_regionL ?_)
  iterate 3 refine va rfl rfl ?_
  refine q_nil (k_then (wc_seq (wc_regionL ?_)))
  refine vm rfl rfl ?_
  refine wl_step (or_call0 cl53 rfl rfl (rnumber_any _ _ _ A c l hr (by omega))) rfl rfl rfl ?_
  rintro v w1 ⟨A14, c14, rfl, hr14, he14⟩
  replace hr := hr.ext he14
  replace hE := hE.tr he14
  have hz_he14 := he14.size
  rw [hnr] at hr14
  refine wl_spell (d := 14) rfl (v' := .tuple #[.int .u64 (numV l : Int), .slice A14 (numR l).length c14, .bool (nmO l)]) (by rw [hnr]) ?_
  have hnl := numR_len l
  have hnv := numV_lt l
  refine vm rfl rfl ?_
  iterate 3 refine vx rfl rfl rfl ?_
  iterate 3 refine va rfl rfl ?_
  refine q_nil (k_then (wc_seq (wc_seq (wc_regionL ?_))))
  refine vm rfl rfl ?_
  refine wl_spell (d := 18) rfl (v' := (.bool true)) (by rw [hn]; rfl) ?_
  refine wl_val (ov_not (b := true) rfl) rfl rfl rfl ?_
  refine vm rfl rfl ?_
  refine wl_gval (ov_move rfl) rfl rfl rfl rfl rfl ?_
  refine wl_gval (ov_gtr rfl rfl) rfl rfl rfl rfl rfl ?_
  refine wl_spell (d := 22) rfl (bf (by omega)) ?_
  refine wl_val (ov_pick_f rfl rfl) rfl rfl rfl ?_
  refine q_nil (k_then ?_)
  refine wc_cond_f rfl ?_
  refine q_skip (k_then (wc_seq (wc_regionL ?_)))
  refine va rfl rfl ?_
  refine q_nil (k_then (wc_seq (wc_seq (wc_regionL ?_))))
  refine va rfl rfl ?_
  refine q_nil (k_then (wc_block ?_))
  refine wc_loop (σ := Nat × Option Addr × Nat × Option Addr × Nat) (fun s => numV l - s.1) (fun s => [(0, .slice s.2.1 (rS kv s.1 (numR l)).2.1.length s.2.2.1), (5, .int .u64 (numV l : Int)), (7, .slice s.2.2.2.1 s.1 s.2.2.2.2), (8, .int .u64 (s.1 : Int))]) (fun s w' => s.1 ≤ numV l ∧ errS s.1 (numR l) = false ∧ RdB w' lo hi s.2.1 s.2.2.1 (rS kv s.1 (numR l)).2.1 ∧ Own w' w.heap.size 9 1 s.2.2.2.1 s.1 s.2.2.2.2 ((rS kv s.1 (numR l)).1.flatMap strc) ∧ Ext w w') ((0, A14, c14, none, 0)) (⟨Nat.zero_le _, rfl, hr14, Own.nil_ _ _ _ _, hE⟩) (⟨rfl, rfl, rfl, rfl, trivial⟩) ?_
  rintro ⟨i, Ai, ci, Bi, di⟩ wq ⟨hi0, her, hri, hoB, hE⟩
  show WC _ _ _ _ [(0, (.slice Ai (rS kv i (numR l)).2.1.length ci)), (5, (.int .u64 (↑(numV l) : Int))), (7, (.slice Bi i di)), (8, (.int .u64 (↑i : Int)))] _
  simp only at hi0 her
  replace hri : RdB wq lo hi Ai ci (rS kv i (numR l)).2.1 := hri
  replace hoB : Own wq w.heap.size 9 1 Bi i di ((rS kv i (numR l)).1.flatMap strc) := hoB
  have hz_E := hE.size
  have hq_hoB := fun g e => Own.lt hoB (g := g) e
  have hrl := (rS_len kv (numR l) i).2
  refine wc_seq (wc_seq (wc_regionL ?_))
  iterate 2 refine vm rfl rfl ?_
  refine wl_val (ov_lss rfl rfl) rfl rfl rfl ?_
  refine q_nil (k_then ?_)
  refine wc_cond_d rfl (fun hc2 => ?_) (fun hc2 => ?_)
  · refine q_skip (k_then (wc_seq (wc_block (wc_seq (wc_regionL ?_)))))
    refine vm rfl rfl ?_
    refine wl_step (or_call0 cl55 rfl rfl (rtext_any _ _ _ Ai ci (rS kv i (numR l)).2.1 hri (by omega))) rfl rfl rfl ?_
    rintro v w2 ⟨A31, c31, rfl, hr31, he31⟩
    replace hri := hri.ext he31
    replace hoB := Own.ext hoB he31
    replace hE := hE.tr he31
    have hz_he31 := he31.size
    refine vm rfl rfl ?_
    iterate 3 refine vx rfl rfl rfl ?_
    iterate 3 refine va rfl rfl ?_
    refine q_nil (k_then (wc_seq (wc_seq (wc_regionL ?_))))
    refine vm rfl rfl ?_
    refine wl_val (ov_not rfl) rfl rfl rfl ?_
    refine q_nil (k_then ?_)
    refine wc_cond rfl (fun hc3 => ?_) (fun hc3 => ?_)
    · have eo : txO (rS kv i (numR l)).2.1 = false := by simpa using hc3
      have ho : tsO l = false := by unfold tsO; rw [errS_mono (numR l) (i := i + 1) (by omega) (by rw [errS, eo]; simp)]; simp
      refine wc_seq (wc_regionL ?_)
      iterate 3 refine va rfl rfl ?_
      refine q_nil (k_then (q_ret (k_thenR (k_blockR (k_thenR (k_thenR (k_blockR (k_thenR ?_))))))))
      refine e_ret3 rfl rfl rfl rfl ?_
      obtain ⟨e1, e2⟩ := ts_bad ho
      rw [e1, e2, ho]
      exact ⟨none, 0, none, 0, rfl, Own.nil_ _ _ _ _, RdB.nil _ _ _, hE⟩
    · have eo : txO (rS kv i (numR l)).2.1 = true := by simpa using hc3
      have er : txR (rS kv i (numR l)).2.1 = (rS kv (i + 1) (numR l)).2.1 := by unfold txR; rw [eo]; rfl
      rw [er] at hr31
      refine wc_spell (d := 10) rfl (v' := .slice A31 (rS kv (i + 1) (numR l)).2.1.length c31) (by rw [er]; rfl) ?_
      refine q_skip (k_then (wc_seq (wc_regionL ?_)))
      iterate 2 refine vm rfl rfl ?_
      refine wl_step (or_buildSlice1 (os := [.tmp 38]) sl27 rfl rfl rfl (by simp [Value.oneCell']) (by decide)) rfl rfl rfl ?_
      rintro v w203 ⟨g39, rfl, hb_g39, he39, hl39, hu39, _⟩
      replace hri := hri.ext he39
      replace hoB := Own.ext hoB he39
      replace hE := hE.tr he39
      replace hr31 := hr31.ext he39
      have hz_he39 := he39.size
      refine wl_step (or_append sl27 rfl hoB rfl (Blk.rd1 hb_g39) (by simp [Value.oneCell']) (by omega) (by simp only [maxLen]; omega) (by omega)) rfl rfl rfl ?_
      rintro v w204 ⟨A40, c40, rfl, ho40, hg40, ha40⟩
      have hq40 := fun g e => Own.lt hoB (g := g) e
      have hz_hg40 := hg40.size
      replace hri := hri.gr hg40 (fun g e => by have := hq40 g e; omega)
      replace hE := hE.gr hg40 (fun g e => by have := hq40 g e; omega)
      replace hr31 := hr31.gr hg40 (fun g e => by have := hq40 g e; omega)
      have hq_ho40 := fun g e => Own.lt ho40 (g := g) e
      replace ho40 : Own w204 w.heap.size 9 1 A40 (i + 1) c40 ((rS kv (i + 1) (numR l)).1.flatMap strc) := by rw [rS_flat]; exact ho40
      refine va rfl rfl ?_
      refine q_nil (k_then (wc_regionL ?_))
      refine vm rfl rfl ?_
      refine va rfl rfl ?_
      refine q_nil (k_block (k_then (wc_regionL ?_)))
      refine vm rfl rfl ?_
      refine wl_val (ov_add rfl rfl (wu64 (by omega) (by omega))) rfl rfl rfl ?_
      refine va rfl rfl ?_
      refine q_nil ?_
      refine k_loop ((i + 1, A31, c31, A40, c40)) (by show numV l - (i + 1) < numV l - i; omega) (⟨rfl, rfl, rfl, rfl, trivial⟩) (⟨by show i + 1 ≤ _; omega, by show errS (i + 1) (numR l) = false; rw [errS, her, eo]; rfl, hr31, ho40, hE⟩)
  · have hin : i = numV l := by omega
    subst hin
    have ho : tsO l = true := by unfold tsO; rw [hn, her, decide_eq_true h16]; rfl
    obtain ⟨e1, e2⟩ := ts_ok ho
    have hrn := (rS_len kv (numR l) (numV l)).1
    refine q_exit (k_thenX (k_thenX (k_blockE (k_then (wc_seq (wc_regionL ?_))))))
    iterate 2 refine vm rfl rfl ?_
    iterate 3 refine va rfl rfl ?_
    refine q_nil (k_then (q_ret ?_))
    refine e_ret3 rfl rfl rfl rfl ?_
    refine ⟨Bi, di, Ai, ci, ?_, ?_, ?_, hE⟩
    · rw [e1, e2, ho, hrn]
    · rw [e1, hrn]; exact hoB
    · rw [e2]; exact hri

theorem rtexts_any (w : World) (lo hi : Nat) (A : Option Addr) (c : Nat) (l : List UInt8) (hr : RdB w lo hi A c l) (hlen : l.length ≤ 140737488355328) (hhi : hi ≤ w.heap.size) :
    Fn Tryd.prog 54 #[.slice A l.length c] w (fun v w' => ∃ B d A c, v = .tuple #[.slice B (tsV l).length d, .slice A (tsR l).length c, .bool (tsO l)] ∧ Own w' w.heap.size 9 1 B (tsV l).length d ((tsV l).flatMap strc) ∧ RdB w' lo hi A c (tsR l) ∧ Ext w w') := by
  by_cases hn : nmO l = true
  · by_cases h16 : numV l ≤ 16
    · exact rtexts_run w lo hi A c l hr hlen hhi hn h16 (by unfold nmR; rw [hn]; rfl)
    · exact rtexts_big w lo hi A c l hr hlen hhi hn (by omega) (by unfold tsO; rw [decide_eq_false h16]; simp)
  · have hn' : nmO l = false := by simpa using hn
    exact rtexts_num w lo hi A c l hr hlen hhi hn' (by unfold tsO; rw [hn']; rfl)

def RdOut (x : Cmd) (q : List UInt8) (b : Bool) (lo hi : Nat) (w : World) (u : Value) : Prop := ∃ K k V v T t A c, u = .tuple #[.agg (cmdc x K k V v T t).toArray, .slice A q.length c, .bool b] ∧ (RdT w 9 K x.keys.length k (x.keys.flatMap strc) ∧ RdT w 5 V x.value.length v (x.value.map u8v) ∧ RdT w 9 T x.tags.length t (x.tags.flatMap strc)) ∧ RdB w lo hi A c q
def CmdOut (x : Cmd) (w : World) (u : Value) : Prop := ∃ K k V v T t, u = .agg (cmdc x K k V v T t).toArray ∧ RdT w 9 K x.keys.length k (x.keys.flatMap strc) ∧ RdT w 5 V x.value.length v (x.value.map u8v) ∧ RdT w 9 T x.tags.length t (x.tags.flatMap strc)
def CmdAt (x : Cmd) (B : Nat) (w : World) (u : Value) : Prop := ∃ g, u = .pointer (some ⟨g, 0, none⟩) ∧ B ≤ g ∧ ∃ K k V v T t, Blk w g 36 (cmdc x K k V v T t) ∧ RdT w 9 K x.keys.length k (x.keys.flatMap strc) ∧ RdT w 5 V x.value.length v (x.value.map u8v) ∧ RdT w 9 T x.tags.length t (x.tags.flatMap strc)
theorem RdOut.ext {x : Cmd} {q : List UInt8} {b : Bool} {lo hi : Nat} {w w' : World} {u : Value} (h : RdOut x q b lo hi w u) (he : Ext w w') : RdOut x q b lo hi w' u := by
  obtain ⟨K, k, V, v, T, t, A, c, e, ⟨h1, h2, h3⟩, h4⟩ := h
  exact ⟨K, k, V, v, T, t, A, c, e, ⟨h1.ext he, h2.ext he, h3.ext he⟩, h4.ext he⟩
theorem RdOut.rt {x : Cmd} {q : List UInt8} {b : Bool} {lo hi B : Nat} {w w' : World} {u : Value} (h : RdOut x q b lo hi w u) (k : RT B [36] w w') (hB : hi ≤ B) : RdOut x q b lo hi w' u := by
  obtain ⟨K, k2, V, v, T, t, A, c, e, ⟨h1, h2, h3⟩, h4⟩ := h
  exact ⟨K, k2, V, v, T, t, A, c, e, ⟨h1.rt k (by decide), h2.rt k (by decide), h3.rt k (by decide)⟩, k.rd h4 hB⟩
theorem CmdOut.ext {x : Cmd} {w w' : World} {u : Value} (h : CmdOut x w u) (he : Ext w w') : CmdOut x w' u := by
  obtain ⟨K, k, V, v, T, t, e, h1, h2, h3⟩ := h
  exact ⟨K, k, V, v, T, t, e, h1.ext he, h2.ext he, h3.ext he⟩
theorem CmdOut.rt {x : Cmd} {B : Nat} {w w' : World} {u : Value} (h : CmdOut x w u) (k : RT B [36] w w') : CmdOut x w' u := by
  obtain ⟨K, k2, V, v, T, t, e, h1, h2, h3⟩ := h
  exact ⟨K, k2, V, v, T, t, e, h1.rt k (by decide), h2.rt k (by decide), h3.rt k (by decide)⟩
theorem CmdAt.ext {x : Cmd} {B : Nat} {w w' : World} {u : Value} (h : CmdAt x B w u) (he : Ext w w') : CmdAt x B w' u := by
  obtain ⟨g, e, hg, K, k, V, v, T, t, hb, h1, h2, h3⟩ := h
  exact ⟨g, e, hg, K, k, V, v, T, t, hb.ext he, h1.ext he, h2.ext he, h3.ext he⟩

theorem read07_any (w : World) (cm : Cmd) (K : Option Addr) (k : Nat) (V : Option Addr) (v : Nat) (T : Option Addr) (t : Nat) (hK : RdT w 9 K cm.keys.length k (cm.keys.flatMap strc)) (hV : RdT w 5 V cm.value.length v (cm.value.map u8v)) (hT : RdT w 9 T cm.tags.length t (cm.tags.flatMap strc)) (p : UInt8) (lo hi : Nat) (A : Option Addr) (c : Nat) (l : List UInt8) (hr : RdB w lo hi A c l) (hhi : hi ≤ w.heap.size) (hlen : l.length ≤ 140737488355328) :
    Fn Tryd.prog 34 #[(.agg #[(.int .i64 cm.op), (.string (strB cm.key)), (.slice K cm.keys.length k), (.slice V cm.value.length v), (.slice T cm.tags.length t), (.int .u64 (↑cm.life : Int)), (.int .u64 (↑cm.ver : Int)), (.string (strB cm.tag)), (.string (strB cm.pre)), (.string (strB cm.child))]), (.int .u8 (↑p.toNat : Int)), (.slice A l.length c)] w (fun u w' => RdOut (rdS cm p l) (rdR p l) (rdO p l) lo hi w' u ∧ Ext w w')  := by
  have hE := ext_refl w
  have hpl := partV_len l
  refine fn_enter (args := [(.agg #[(.int .i64 cm.op), (.string (strB cm.key)), (.slice K cm.keys.length k), (.slice V cm.value.length v), (.slice T cm.tags.length t), (.int .u64 (↑cm.life : Int)), (.int .u64 (↑cm.ver : Int)), (.string (strB cm.tag)), (.string (strB cm.pre)), (.string (strB cm.child))]), (.int .u8 (↑p.toNat : Int)), (.slice A l.length c)]) Tryd.func34 rfl rfl rfl ?_
  show WC _ _ _ _ [(0, (.agg #[(.int .i64 cm.op), (.string (strB cm.key)), (.slice K cm.keys.length k), (.slice V cm.value.length v), (.slice T cm.tags.length t), (.int .u64 (↑cm.life : Int)), (.int .u64 (↑cm.ver : Int)), (.string (strB cm.tag)), (.string (strB cm.pre)), (.string (strB cm.child))])), (1, (.int .u8 (↑p.toNat : Int))), (2, (.slice A l.length c))] _
  refine wc_seq (wc_regionL ?_)
  refine wl_step (or_box (cs := [(.int .i64 cm.op), (.string (strB cm.key)), (.slice K cm.keys.length k), (.slice V cm.value.length v), (.slice T cm.tags.length t), (.int .u64 (↑cm.life : Int)), (.int .u64 (↑cm.ver : Int)), (.string (strB cm.tag)), (.string (strB cm.pre)), (.string (strB cm.child))]) rfl rfl) rfl rfl rfl ?_
  rintro v w1 ⟨g3, rfl, hb_g3, he3, hl3, hu3⟩
  replace hK := RdT.ext hK he3
  replace hV := RdT.ext hV he3
  replace hT := RdT.ext hT he3
  replace hr := hr.ext he3
  replace hE := hE.tr he3
  have hz_he3 := he3.size
  refine wl_step (or_alloc (cs := [(.int .i64 0), (.string (strB [])), (.slice none 0 0), (.slice none 0 0), (.slice none 0 0), (.int .u64 0), (.int .u64 0), (.string (strB [])), (.string (strB [])), (.string (strB []))]) ze36 rfl) rfl rfl rfl ?_
  rintro v w2 ⟨g6, rfl, hb_g6, he6, hl6, hu6⟩
  replace hK := RdT.ext hK he6
  replace hV := RdT.ext hV he6
  replace hT := RdT.ext hT he6
  replace hr := hr.ext he6
  replace hE := hE.tr he6
  replace hb_g3 := hb_g3.ext he6
  have hz_he6 := he6.size
  iterate 2 refine va rfl rfl ?_
  refine q_nil (k_then (wc_seq (wc_regionL ?_)))
  refine va rfl rfl ?_
  refine q_nil (k_then (wc_seq (wc_regionL ?_)))
  refine va rfl rfl ?_
  refine q_nil (k_then (wc_seq (wc_regionL ?_)))
  refine va rfl rfl ?_
  refine q_nil (k_then (wc_seq (wc_regionL ?_)))
  refine va rfl rfl ?_
  refine q_nil (k_then (wc_seq (wc_seq (wc_regionL ?_))))
  refine vm rfl rfl ?_
  refine q_nil (k_then (wc_block (wc_seq (wc_seq (wc_regionL ?_)))))
  refine ve rfl rfl rfl ?_
  refine va rfl rfl ?_
  refine q_nil (k_then ?_)
  refine wc_cond_d rfl (fun hc1 => ?_) (fun hc1 => ?_)
  · have eb : p = 108 := toNat_inj hc1
    refine q_skip (k_then ?_)
    refine wc_cond_T rfl (decide_eq_true hc1) ?_
    refine wc_regionL ?_
    refine vm rfl rfl ?_
    refine wl_step (or_call0 cl53 rfl rfl (rnumber_any _ _ _ A c l hr (by omega))) rfl rfl rfl ?_
    rintro v w3 ⟨A25, c25, rfl, hr25, he25⟩
    replace hK := RdT.ext hK he25
    replace hV := RdT.ext hV he25
    replace hT := RdT.ext hT he25
    replace hr := hr.ext he25
    replace hE := hE.tr he25
    replace hb_g3 := hb_g3.ext he25
    replace hb_g6 := hb_g6.ext he25
    have hz_he25 := he25.size
    refine vm rfl rfl ?_
    iterate 3 refine vx rfl rfl rfl ?_
    iterate 3 refine va rfl rfl ?_
    refine q_nil (k_block (k_then (wc_seq (wc_seq (wc_regionL ?_)))))
    refine vm rfl rfl ?_
    refine q_nil (k_then (wc_block (wc_seq (wc_regionL ?_))))
    refine ve rfl rfl rfl ?_
    refine va rfl rfl ?_
    refine q_nil (k_then ?_)
    refine wc_cond_F rfl (decide_eq_false (by omega)) ?_
    refine wc_seq (wc_regionL ?_)
    refine ve rfl rfl rfl ?_
    refine va rfl rfl ?_
    refine q_nil (k_then ?_)
    refine wc_cond_F rfl (decide_eq_false (by omega)) ?_
    refine wc_seq (wc_regionL ?_)
    refine ve rfl rfl rfl ?_
    refine va rfl rfl ?_
    refine q_nil (k_then ?_)
    refine wc_cond_F rfl (decide_eq_false (by omega)) ?_
    refine wc_seq (wc_regionL ?_)
    refine ve rfl rfl rfl ?_
    refine va rfl rfl ?_
    refine q_nil (k_then ?_)
    refine wc_cond_T rfl (decide_eq_true hc1) ?_
    refine wc_regionL ?_
    refine vm rfl rfl ?_
    refine wl_val (ov_field0 (off := 5) fo36_5 rfl) rfl rfl rfl ?_
    refine wl_step0 (or_storeAt (cs' := [(.int .i64 cm.op), (.string (strB cm.key)), (.slice K cm.keys.length k), (.slice V cm.value.length v), (.slice T cm.tags.length t), (.int .u64 (↑(numV l) : Int)), (.int .u64 (↑cm.ver : Int)), (.string (strB cm.tag)), (.string (strB cm.pre)), (.string (strB cm.child))]) sz34 rfl rfl rfl hb_g3 rfl rfl) rfl rfl ?_
    rintro _ w4 ⟨hN4, hg4⟩
    have hz_hg4 := hg4.size
    replace hK := RdT.gr hK hg4 hb_g3 (by decide)
    replace hV := RdT.gr hV hg4 hb_g3 (by decide)
    replace hT := RdT.gr hT hg4 hb_g3 (by decide)
    replace hr := hr.gr hg4 (fun _ e => by cases e; omega)
    replace hE := hE.gr hg4 (fun _ e => by cases e; omega)
    replace hb_g6 := hb_g6.gr hg4 (by intro e; cases e; omega)
    replace hr25 := hr25.gr hg4 (fun _ e => by cases e; omega)
    replace hb_g3 := hN4
    refine q_nil (k_block (k_then (wc_seq (wc_regionL ?_))))
    refine wl_val (ov_loadBlk (cs := [(.int .i64 cm.op), (.string (strB cm.key)), (.slice K cm.keys.length k), (.slice V cm.value.length v), (.slice T cm.tags.length t), (.int .u64 (↑(numV l) : Int)), (.int .u64 (↑cm.ver : Int)), (.string (strB cm.tag)), (.string (strB cm.pre)), (.string (strB cm.child))]) ag36_10 rfl hb_g3) rfl rfl rfl ?_
    iterate 2 refine vm rfl rfl ?_
    refine wl_step0 (or_storeBlk (vs := [(.int .i64 cm.op), (.string (strB cm.key)), (.slice K cm.keys.length k), (.slice V cm.value.length v), (.slice T cm.tags.length t), (.int .u64 (↑(numV l) : Int)), (.int .u64 (↑cm.ver : Int)), (.string (strB cm.tag)), (.string (strB cm.pre)), (.string (strB cm.child))]) sz36 rfl rfl (by simp [Value.oneCell']) hb_g6 rfl) rfl rfl ?_
    rintro _ w5 ⟨hN5, hg5⟩
    have hz_hg5 := hg5.size
    replace hK := RdT.gr hK hg5 hb_g6 (by decide)
    replace hV := RdT.gr hV hg5 hb_g6 (by decide)
    replace hT := RdT.gr hT hg5 hb_g6 (by decide)
    replace hr := hr.gr hg5 (fun _ e => by cases e; omega)
    replace hE := hE.gr hg5 (fun _ e => by cases e; omega)
    replace hb_g3 := hb_g3.gr hg5 (by intro e; cases e; omega)
    replace hr25 := hr25.gr hg5 (fun _ e => by cases e; omega)
    replace hb_g6 := hN5
    iterate 2 refine va rfl rfl ?_
    refine q_nil (k_then (q_ret ?_))
    refine e_retL (rs := [.cell 6 36, .tmp 7, .tmp 8]) (vs := [.agg #[(.int .i64 cm.op), (.string (strB cm.key)), (.slice K cm.keys.length k), (.slice V cm.value.length v), (.slice T cm.tags.length t), (.int .u64 (↑(numV l) : Int)), (.int .u64 (↑cm.ver : Int)), (.string (strB cm.tag)), (.string (strB cm.pre)), (.string (strB cm.child))], (.slice A25 (nmR l).length c25), (.bool (nmO l))]) rfl ⟨⟨_, _, [(.int .i64 cm.op), (.string (strB cm.key)), (.slice K cm.keys.length k), (.slice V cm.value.length v), (.slice T cm.tags.length t), (.int .u64 (↑(numV l) : Int)), (.int .u64 (↑cm.ver : Int)), (.string (strB cm.tag)), (.string (strB cm.pre)), (.string (strB cm.child))], rfl, ag36_10, hb_g6, rfl⟩, rfl, rfl, trivial⟩ ?_
    have f1 : rdS cm p l = { cm with life := numV l } := by rw [eb]; rfl
    have f2 : rdR p l = nmR l := by rw [eb]; rfl
    have f3 : rdO p l = nmO l := by rw [eb]; rfl
    rw [f1, f2, f3]
    exact ⟨⟨K, k, V, v, T, t, A25, c25, rfl, ⟨hK, hV, hT⟩, hr25⟩, hE⟩
  · have nb108 : ¬ p = 108 := fun e => hc1 (by rw [e]; rfl)
    refine wc_regionL ?_
    refine ve rfl rfl rfl ?_
    refine va rfl rfl ?_
    refine q_nil (k_then ?_)
    refine wc_cond_d rfl (fun hc2 => ?_) (fun hc2 => ?_)
    · have eb : p = 110 := toNat_inj hc2
      refine wc_regionL ?_
      refine vm rfl rfl ?_
      refine wl_step (or_call0 cl53 rfl rfl (rnumber_any _ _ _ A c l hr (by omega))) rfl rfl rfl ?_
      rintro v w203 ⟨A25, c25, rfl, hr25, he25⟩
      replace hK := RdT.ext hK he25
      replace hV := RdT.ext hV he25
      replace hT := RdT.ext hT he25
      replace hr := hr.ext he25
      replace hE := hE.tr he25
      replace hb_g3 := hb_g3.ext he25
      replace hb_g6 := hb_g6.ext he25
      have hz_he25 := he25.size
      refine vm rfl rfl ?_
      iterate 3 refine vx rfl rfl rfl ?_
      iterate 3 refine va rfl rfl ?_
      refine q_nil (k_block (k_then (wc_seq (wc_seq (wc_regionL ?_)))))
      refine vm rfl rfl ?_
      refine q_nil (k_then (wc_block (wc_seq (wc_regionL ?_))))
      refine ve rfl rfl rfl ?_
      refine va rfl rfl ?_
      refine q_nil (k_then ?_)
      refine wc_cond_F rfl (decide_eq_false (by omega)) ?_
      refine wc_seq (wc_regionL ?_)
      refine ve rfl rfl rfl ?_
      refine va rfl rfl ?_
      refine q_nil (k_then ?_)
      refine wc_cond_F rfl (decide_eq_false (by omega)) ?_
      refine wc_seq (wc_regionL ?_)
      refine ve rfl rfl rfl ?_
      refine va rfl rfl ?_
      refine q_nil (k_then ?_)
      refine wc_cond_F rfl (decide_eq_false (by omega)) ?_
      refine wc_seq (wc_regionL ?_)
      refine ve rfl rfl rfl ?_
      refine va rfl rfl ?_
      refine q_nil (k_then ?_)
      refine wc_cond_F rfl (decide_eq_false (by omega)) ?_
      refine wc_seq (wc_regionL ?_)
      refine ve rfl rfl rfl ?_
      refine va rfl rfl ?_
      refine q_nil (k_then ?_)
      refine wc_cond_T rfl (decide_eq_true hc2) ?_
      refine wc_regionL ?_
      refine vm rfl rfl ?_
      refine wl_val (ov_field0 (off := 6) fo36_6 rfl) rfl rfl rfl ?_
      refine wl_step0 (or_storeAt (cs' := [(.int .i64 cm.op), (.string (strB cm.key)), (.slice K cm.keys.length k), (.slice V cm.value.length v), (.slice T cm.tags.length t), (.int .u64 (↑cm.life : Int)), (.int .u64 (↑(numV l) : Int)), (.string (strB cm.tag)), (.string (strB cm.pre)), (.string (strB cm.child))]) sz33 rfl rfl rfl hb_g3 rfl rfl) rfl rfl ?_
      rintro _ w204 ⟨hN204, hg204⟩
      have hz_hg204 := hg204.size
      replace hK := RdT.gr hK hg204 hb_g3 (by decide)
      replace hV := RdT.gr hV hg204 hb_g3 (by decide)
      replace hT := RdT.gr hT hg204 hb_g3 (by decide)
      replace hr := hr.gr hg204 (fun _ e => by cases e; omega)
      replace hE := hE.gr hg204 (fun _ e => by cases e; omega)
      replace hb_g6 := hb_g6.gr hg204 (by intro e; cases e; omega)
      replace hr25 := hr25.gr hg204 (fun _ e => by cases e; omega)
      replace hb_g3 := hN204
      refine q_nil (k_block (k_then (wc_seq (wc_regionL ?_))))
      refine wl_val (ov_loadBlk (cs := [(.int .i64 cm.op), (.string (strB cm.key)), (.slice K cm.keys.length k), (.slice V cm.value.length v), (.slice T cm.tags.length t), (.int .u64 (↑cm.life : Int)), (.int .u64 (↑(numV l) : Int)), (.string (strB cm.tag)), (.string (strB cm.pre)), (.string (strB cm.child))]) ag36_10 rfl hb_g3) rfl rfl rfl ?_
      iterate 2 refine vm rfl rfl ?_
      refine wl_step0 (or_storeBlk (vs := [(.int .i64 cm.op), (.string (strB cm.key)), (.slice K cm.keys.length k), (.slice V cm.value.length v), (.slice T cm.tags.length t), (.int .u64 (↑cm.life : Int)), (.int .u64 (↑(numV l) : Int)), (.string (strB cm.tag)), (.string (strB cm.pre)), (.string (strB cm.child))]) sz36 rfl rfl (by simp [Value.oneCell']) hb_g6 rfl) rfl rfl ?_
      rintro _ w205 ⟨hN205, hg205⟩
      have hz_hg205 := hg205.size
      replace hK := RdT.gr hK hg205 hb_g6 (by decide)
      replace hV := RdT.gr hV hg205 hb_g6 (by decide)
      replace hT := RdT.gr hT hg205 hb_g6 (by decide)
      replace hr := hr.gr hg205 (fun _ e => by cases e; omega)
      replace hE := hE.gr hg205 (fun _ e => by cases e; omega)
      replace hb_g3 := hb_g3.gr hg205 (by intro e; cases e; omega)
      replace hr25 := hr25.gr hg205 (fun _ e => by cases e; omega)
      replace hb_g6 := hN205
      iterate 2 refine va rfl rfl ?_
      refine q_nil (k_then (q_ret ?_))
      refine e_retL (rs := [.cell 6 36, .tmp 7, .tmp 8]) (vs := [.agg #[(.int .i64 cm.op), (.string (strB cm.key)), (.slice K cm.keys.length k), (.slice V cm.value.length v), (.slice T cm.tags.length t), (.int .u64 (↑cm.life : Int)), (.int .u64 (↑(numV l) : Int)), (.string (strB cm.tag)), (.string (strB cm.pre)), (.string (strB cm.child))], (.slice A25 (nmR l).length c25), (.bool (nmO l))]) rfl ⟨⟨_, _, [(.int .i64 cm.op), (.string (strB cm.key)), (.slice K cm.keys.length k), (.slice V cm.value.length v), (.slice T cm.tags.length t), (.int .u64 (↑cm.life : Int)), (.int .u64 (↑(numV l) : Int)), (.string (strB cm.tag)), (.string (strB cm.pre)), (.string (strB cm.child))], rfl, ag36_10, hb_g6, rfl⟩, rfl, rfl, trivial⟩ ?_
      have f1 : rdS cm p l = { cm with ver := numV l } := by rw [eb]; rfl
      have f2 : rdR p l = nmR l := by rw [eb]; rfl
      have f3 : rdO p l = nmO l := by rw [eb]; rfl
      rw [f1, f2, f3]
      exact ⟨⟨K, k, V, v, T, t, A25, c25, rfl, ⟨hK, hV, hT⟩, hr25⟩, hE⟩
    · have nb110 : ¬ p = 110 := fun e => hc2 (by rw [e]; rfl)
      refine wc_seq (wc_seq (wc_regionL ?_))
      refine ve rfl rfl rfl ?_
      refine va rfl rfl ?_
      refine q_nil (k_then ?_)
      refine wc_cond_d rfl (fun hc3 => ?_) (fun hc3 => ?_)
      · have eb : p = 116 := toNat_inj hc3
        refine q_skip (k_then ?_)
        refine wc_cond_T rfl (decide_eq_true hc3) ?_
        refine wc_regionL ?_
        refine vm rfl rfl ?_
        refine wl_step (or_call0 cl54 rfl rfl (rtexts_any _ _ _ A c l hr (by omega) (by omega))) rfl rfl rfl ?_
        rintro v w203 ⟨B34, d34, A34, c34, rfl, ho34, hr34, he34⟩
        replace hK := RdT.ext hK he34
        replace hV := RdT.ext hV he34
        replace hT := RdT.ext hT he34
        replace hr := hr.ext he34
        replace hE := hE.tr he34
        replace hb_g3 := hb_g3.ext he34
        replace hb_g6 := hb_g6.ext he34
        have hz_he34 := he34.size
        have hq_ho34 := fun g e => Own.lt ho34 (g := g) e
        refine vm rfl rfl ?_
        iterate 3 refine vx rfl rfl rfl ?_
        iterate 3 refine va rfl rfl ?_
        refine q_nil (k_block (k_then (wc_seq (wc_seq (wc_regionL ?_)))))
        refine vm rfl rfl ?_
        refine q_nil (k_then (wc_block (wc_seq (wc_regionL ?_))))
        refine ve rfl rfl rfl ?_
        refine va rfl rfl ?_
        refine q_nil (k_then ?_)
        refine wc_cond_F rfl (decide_eq_false (by omega)) ?_
        refine wc_seq (wc_regionL ?_)
        refine ve rfl rfl rfl ?_
        refine va rfl rfl ?_
        refine q_nil (k_then ?_)
        refine wc_cond_F rfl (decide_eq_false (by omega)) ?_
        refine wc_seq (wc_regionL ?_)
        refine ve rfl rfl rfl ?_
        refine va rfl rfl ?_
        refine q_nil (k_then ?_)
        refine wc_cond_T rfl (decide_eq_true hc3) ?_
        refine wc_regionL ?_
        refine vm rfl rfl ?_
        refine wl_val (ov_field0 (off := 4) fo36_4 rfl) rfl rfl rfl ?_
        refine wl_step0 (or_storeAt (cs' := [(.int .i64 cm.op), (.string (strB cm.key)), (.slice K cm.keys.length k), (.slice V cm.value.length v), (.slice B34 (tsV l).length d34), (.int .u64 (↑cm.life : Int)), (.int .u64 (↑cm.ver : Int)), (.string (strB cm.tag)), (.string (strB cm.pre)), (.string (strB cm.child))]) sz27 rfl rfl rfl hb_g3 rfl rfl) rfl rfl ?_
        rintro _ w204 ⟨hN204, hg204⟩
        have hz_hg204 := hg204.size
        replace hK := RdT.gr hK hg204 hb_g3 (by decide)
        replace hV := RdT.gr hV hg204 hb_g3 (by decide)
        replace hT := RdT.gr hT hg204 hb_g3 (by decide)
        replace hr := hr.gr hg204 (fun _ e => by cases e; omega)
        replace hE := hE.gr hg204 (fun _ e => by cases e; omega)
        replace hb_g6 := hb_g6.gr hg204 (by intro e; cases e; omega)
        replace ho34 := Own.gr ho34 hg204 (by first | exact .inl rfl | (right; intro e; first | (have := hq_ho34 _ e; omega) | (have := Own.lt ho34 e; omega) | exact own_blk_ne ho34 hb_g3 (by decide) e))
        replace hr34 := hr34.gr hg204 (fun _ e => by cases e; omega)
        replace hb_g3 := hN204
        refine q_nil (k_block (k_then (wc_seq (wc_regionL ?_))))
        refine wl_val (ov_loadBlk (cs := [(.int .i64 cm.op), (.string (strB cm.key)), (.slice K cm.keys.length k), (.slice V cm.value.length v), (.slice B34 (tsV l).length d34), (.int .u64 (↑cm.life : Int)), (.int .u64 (↑cm.ver : Int)), (.string (strB cm.tag)), (.string (strB cm.pre)), (.string (strB cm.child))]) ag36_10 rfl hb_g3) rfl rfl rfl ?_
        iterate 2 refine vm rfl rfl ?_
        refine wl_step0 (or_storeBlk (vs := [(.int .i64 cm.op), (.string (strB cm.key)), (.slice K cm.keys.length k), (.slice V cm.value.length v), (.slice B34 (tsV l).length d34), (.int .u64 (↑cm.life : Int)), (.int .u64 (↑cm.ver : Int)), (.string (strB cm.tag)), (.string (strB cm.pre)), (.string (strB cm.child))]) sz36 rfl rfl (by simp [Value.oneCell']) hb_g6 rfl) rfl rfl ?_
        rintro _ w205 ⟨hN205, hg205⟩
        have hz_hg205 := hg205.size
        replace hK := RdT.gr hK hg205 hb_g6 (by decide)
        replace hV := RdT.gr hV hg205 hb_g6 (by decide)
        replace hT := RdT.gr hT hg205 hb_g6 (by decide)
        replace hr := hr.gr hg205 (fun _ e => by cases e; omega)
        replace hE := hE.gr hg205 (fun _ e => by cases e; omega)
        replace hb_g3 := hb_g3.gr hg205 (by intro e; cases e; omega)
        replace ho34 := Own.gr ho34 hg205 (by first | exact .inl rfl | (right; intro e; first | (have := hq_ho34 _ e; omega) | (have := Own.lt ho34 e; omega) | exact own_blk_ne ho34 hb_g6 (by decide) e))
        replace hr34 := hr34.gr hg205 (fun _ e => by cases e; omega)
        replace hb_g6 := hN205
        iterate 2 refine va rfl rfl ?_
        refine q_nil (k_then (q_ret ?_))
        refine e_retL (rs := [.cell 6 36, .tmp 7, .tmp 8]) (vs := [.agg #[(.int .i64 cm.op), (.string (strB cm.key)), (.slice K cm.keys.length k), (.slice V cm.value.length v), (.slice B34 (tsV l).length d34), (.int .u64 (↑cm.life : Int)), (.int .u64 (↑cm.ver : Int)), (.string (strB cm.tag)), (.string (strB cm.pre)), (.string (strB cm.child))], (.slice A34 (tsR l).length c34), (.bool (tsO l))]) rfl ⟨⟨_, _, [(.int .i64 cm.op), (.string (strB cm.key)), (.slice K cm.keys.length k), (.slice V cm.value.length v), (.slice B34 (tsV l).length d34), (.int .u64 (↑cm.life : Int)), (.int .u64 (↑cm.ver : Int)), (.string (strB cm.tag)), (.string (strB cm.pre)), (.string (strB cm.child))], rfl, ag36_10, hb_g6, rfl⟩, rfl, rfl, trivial⟩ ?_
        have f1 : rdS cm p l = { cm with tags := tsV l } := by rw [eb]; rfl
        have f2 : rdR p l = tsR l := by rw [eb]; rfl
        have f3 : rdO p l = tsO l := by rw [eb]; rfl
        rw [f1, f2, f3]
        exact ⟨⟨K, k, V, v, B34, d34, A34, c34, rfl, ⟨hK, hV, (RdT.own ho34)⟩, hr34⟩, hE⟩
      · have nb116 : ¬ p = 116 := fun e => hc3 (by rw [e]; rfl)
        refine wc_regionL ?_
        refine ve rfl rfl rfl ?_
        refine va rfl rfl ?_
        refine q_nil (k_then ?_)
        refine wc_cond_d rfl (fun hc4 => ?_) (fun hc4 => ?_)
        · have eb : p = 109 := toNat_inj hc4
          refine wc_regionL ?_
          refine vm rfl rfl ?_
          refine wl_step (or_call0 cl54 rfl rfl (rtexts_any _ _ _ A c l hr (by omega) (by omega))) rfl rfl rfl ?_
          rintro v w203 ⟨B34, d34, A34, c34, rfl, ho34, hr34, he34⟩
          replace hK := RdT.ext hK he34
          replace hV := RdT.ext hV he34
          replace hT := RdT.ext hT he34
          replace hr := hr.ext he34
          replace hE := hE.tr he34
          replace hb_g3 := hb_g3.ext he34
          replace hb_g6 := hb_g6.ext he34
          have hz_he34 := he34.size
          have hq_ho34 := fun g e => Own.lt ho34 (g := g) e
          refine vm rfl rfl ?_
          iterate 3 refine vx rfl rfl rfl ?_
          iterate 3 refine va rfl rfl ?_
          refine q_nil (k_block (k_then (wc_seq (wc_seq (wc_regionL ?_)))))
          refine vm rfl rfl ?_
          refine q_nil (k_then (wc_block (wc_seq (wc_regionL ?_))))
          refine ve rfl rfl rfl ?_
          refine va rfl rfl ?_
          refine q_nil (k_then ?_)
          refine wc_cond_F rfl (decide_eq_false (by omega)) ?_
          refine wc_seq (wc_regionL ?_)
          refine ve rfl rfl rfl ?_
          refine va rfl rfl ?_
          refine q_nil (k_then ?_)
          refine wc_cond_F rfl (decide_eq_false (by omega)) ?_
          refine wc_seq (wc_regionL ?_)
          refine ve rfl rfl rfl ?_
          refine va rfl rfl ?_
          refine q_nil (k_then ?_)
          refine wc_cond_F rfl (decide_eq_false (by omega)) ?_
          refine wc_seq (wc_regionL ?_)
          refine ve rfl rfl rfl ?_
          refine va rfl rfl ?_
          refine q_nil (k_then ?_)
          refine wc_cond_F rfl (decide_eq_false (by omega)) ?_
          refine wc_seq (wc_regionL ?_)
          refine ve rfl rfl rfl ?_
          refine va rfl rfl ?_
          refine q_nil (k_then ?_)
          refine wc_cond_F rfl (decide_eq_false (by omega)) ?_
          refine wc_seq (wc_regionL ?_)
          refine ve rfl rfl rfl ?_
          refine va rfl rfl ?_
          refine q_nil (k_then ?_)
          refine wc_cond_T rfl (decide_eq_true hc4) ?_
          refine wc_regionL ?_
          refine vm rfl rfl ?_
          refine wl_val (ov_field0 (off := 2) fo36_2 rfl) rfl rfl rfl ?_
          refine wl_step0 (or_storeAt (cs' := [(.int .i64 cm.op), (.string (strB cm.key)), (.slice B34 (tsV l).length d34), (.slice V cm.value.length v), (.slice T cm.tags.length t), (.int .u64 (↑cm.life : Int)), (.int .u64 (↑cm.ver : Int)), (.string (strB cm.tag)), (.string (strB cm.pre)), (.string (strB cm.child))]) sz27 rfl rfl rfl hb_g3 rfl rfl) rfl rfl ?_
          rintro _ w204 ⟨hN204, hg204⟩
          have hz_hg204 := hg204.size
          replace hK := RdT.gr hK hg204 hb_g3 (by decide)
          replace hV := RdT.gr hV hg204 hb_g3 (by decide)
          replace hT := RdT.gr hT hg204 hb_g3 (by decide)
          replace hr := hr.gr hg204 (fun _ e => by cases e; omega)
          replace hE := hE.gr hg204 (fun _ e => by cases e; omega)
          replace hb_g6 := hb_g6.gr hg204 (by intro e; cases e; omega)
          replace ho34 := Own.gr ho34 hg204 (by first | exact .inl rfl | (right; intro e; first | (have := hq_ho34 _ e; omega) | (have := Own.lt ho34 e; omega) | exact own_blk_ne ho34 hb_g3 (by decide) e))
          replace hr34 := hr34.gr hg204 (fun _ e => by cases e; omega)
          replace hb_g3 := hN204
          refine q_nil (k_block (k_then (wc_seq (wc_regionL ?_))))
          refine wl_val (ov_loadBlk (cs := [(.int .i64 cm.op), (.string (strB cm.key)), (.slice B34 (tsV l).length d34), (.slice V cm.value.length v), (.slice T cm.tags.length t), (.int .u64 (↑cm.life : Int)), (.int .u64 (↑cm.ver : Int)), (.string (strB cm.tag)), (.string (strB cm.pre)), (.string (strB cm.child))]) ag36_10 rfl hb_g3) rfl rfl rfl ?_
          iterate 2 refine vm rfl rfl ?_
          refine wl_step0 (or_storeBlk (vs := [(.int .i64 cm.op), (.string (strB cm.key)), (.slice B34 (tsV l).length d34), (.slice V cm.value.length v), (.slice T cm.tags.length t), (.int .u64 (↑cm.life : Int)), (.int .u64 (↑cm.ver : Int)), (.string (strB cm.tag)), (.string (strB cm.pre)), (.string (strB cm.child))]) sz36 rfl rfl (by simp [Value.oneCell']) hb_g6 rfl) rfl rfl ?_
          rintro _ w205 ⟨hN205, hg205⟩
          have hz_hg205 := hg205.size
          replace hK := RdT.gr hK hg205 hb_g6 (by decide)
          replace hV := RdT.gr hV hg205 hb_g6 (by decide)
          replace hT := RdT.gr hT hg205 hb_g6 (by decide)
          replace hr := hr.gr hg205 (fun _ e => by cases e; omega)
          replace hE := hE.gr hg205 (fun _ e => by cases e; omega)
          replace hb_g3 := hb_g3.gr hg205 (by intro e; cases e; omega)
          replace ho34 := Own.gr ho34 hg205 (by first | exact .inl rfl | (right; intro e; first | (have := hq_ho34 _ e; omega) | (have := Own.lt ho34 e; omega) | exact own_blk_ne ho34 hb_g6 (by decide) e))
          replace hr34 := hr34.gr hg205 (fun _ e => by cases e; omega)
          replace hb_g6 := hN205
          iterate 2 refine va rfl rfl ?_
          refine q_nil (k_then (q_ret ?_))
          refine e_retL (rs := [.cell 6 36, .tmp 7, .tmp 8]) (vs := [.agg #[(.int .i64 cm.op), (.string (strB cm.key)), (.slice B34 (tsV l).length d34), (.slice V cm.value.length v), (.slice T cm.tags.length t), (.int .u64 (↑cm.life : Int)), (.int .u64 (↑cm.ver : Int)), (.string (strB cm.tag)), (.string (strB cm.pre)), (.string (strB cm.child))], (.slice A34 (tsR l).length c34), (.bool (tsO l))]) rfl ⟨⟨_, _, [(.int .i64 cm.op), (.string (strB cm.key)), (.slice B34 (tsV l).length d34), (.slice V cm.value.length v), (.slice T cm.tags.length t), (.int .u64 (↑cm.life : Int)), (.int .u64 (↑cm.ver : Int)), (.string (strB cm.tag)), (.string (strB cm.pre)), (.string (strB cm.child))], rfl, ag36_10, hb_g6, rfl⟩, rfl, rfl, trivial⟩ ?_
          have f1 : rdS cm p l = { cm with keys := tsV l } := by rw [eb]; rfl
          have f2 : rdR p l = tsR l := by rw [eb]; rfl
          have f3 : rdO p l = tsO l := by rw [eb]; rfl
          rw [f1, f2, f3]
          exact ⟨⟨B34, d34, V, v, T, t, A34, c34, rfl, ⟨(RdT.own ho34), hV, hT⟩, hr34⟩, hE⟩
        · have nb109 : ¬ p = 109 := fun e => hc4 (by rw [e]; rfl)
          refine wc_regionL ?_
          refine vm rfl rfl ?_
          refine wl_step (or_call0 cl55 rfl rfl (rtext_any _ _ _ A c l hr (by omega))) rfl rfl rfl ?_
          rintro v w203 ⟨A16, c16, rfl, hr16, he16⟩
          replace hK := RdT.ext hK he16
          replace hV := RdT.ext hV he16
          replace hT := RdT.ext hT he16
          replace hr := hr.ext he16
          replace hE := hE.tr he16
          replace hb_g3 := hb_g3.ext he16
          replace hb_g6 := hb_g6.ext he16
          have hz_he16 := he16.size
          refine vm rfl rfl ?_
          iterate 3 refine vx rfl rfl rfl ?_
          iterate 3 refine va rfl rfl ?_
          refine q_nil (k_block (k_then (wc_seq (wc_seq (wc_regionL ?_)))))
          refine vm rfl rfl ?_
          refine q_nil (k_then (wc_block (wc_seq (wc_regionL ?_))))
          refine ve rfl rfl rfl ?_
          refine va rfl rfl ?_
          refine q_nil (k_then ?_)
          refine wc_cond_d rfl (fun hc5 => ?_) (fun hc5 => ?_)
          · have eb : p = 107 := toNat_inj hc5
            refine wc_regionL ?_
            refine vm rfl rfl ?_
            refine wl_val (ov_field0 (off := 1) fo36_1 rfl) rfl rfl rfl ?_
            refine wl_step0 (or_storeAt (cs' := [(.int .i64 cm.op), (.string (strB (partV l))), (.slice K cm.keys.length k), (.slice V cm.value.length v), (.slice T cm.tags.length t), (.int .u64 (↑cm.life : Int)), (.int .u64 (↑cm.ver : Int)), (.string (strB cm.tag)), (.string (strB cm.pre)), (.string (strB cm.child))]) sz9 rfl rfl rfl hb_g3 rfl rfl) rfl rfl ?_
            rintro _ w204 ⟨hN204, hg204⟩
            have hz_hg204 := hg204.size
            replace hK := RdT.gr hK hg204 hb_g3 (by decide)
            replace hV := RdT.gr hV hg204 hb_g3 (by decide)
            replace hT := RdT.gr hT hg204 hb_g3 (by decide)
            replace hr := hr.gr hg204 (fun _ e => by cases e; omega)
            replace hE := hE.gr hg204 (fun _ e => by cases e; omega)
            replace hb_g6 := hb_g6.gr hg204 (by intro e; cases e; omega)
            replace hr16 := hr16.gr hg204 (fun _ e => by cases e; omega)
            replace hb_g3 := hN204
            refine q_nil (k_block (k_then (wc_seq (wc_regionL ?_))))
            refine wl_val (ov_loadBlk (cs := [(.int .i64 cm.op), (.string (strB (partV l))), (.slice K cm.keys.length k), (.slice V cm.value.length v), (.slice T cm.tags.length t), (.int .u64 (↑cm.life : Int)), (.int .u64 (↑cm.ver : Int)), (.string (strB cm.tag)), (.string (strB cm.pre)), (.string (strB cm.child))]) ag36_10 rfl hb_g3) rfl rfl rfl ?_
            iterate 2 refine vm rfl rfl ?_
            refine wl_step0 (or_storeBlk (vs := [(.int .i64 cm.op), (.string (strB (partV l))), (.slice K cm.keys.length k), (.slice V cm.value.length v), (.slice T cm.tags.length t), (.int .u64 (↑cm.life : Int)), (.int .u64 (↑cm.ver : Int)), (.string (strB cm.tag)), (.string (strB cm.pre)), (.string (strB cm.child))]) sz36 rfl rfl (by simp [Value.oneCell']) hb_g6 rfl) rfl rfl ?_
            rintro _ w205 ⟨hN205, hg205⟩
            have hz_hg205 := hg205.size
            replace hK := RdT.gr hK hg205 hb_g6 (by decide)
            replace hV := RdT.gr hV hg205 hb_g6 (by decide)
            replace hT := RdT.gr hT hg205 hb_g6 (by decide)
            replace hr := hr.gr hg205 (fun _ e => by cases e; omega)
            replace hE := hE.gr hg205 (fun _ e => by cases e; omega)
            replace hb_g3 := hb_g3.gr hg205 (by intro e; cases e; omega)
            replace hr16 := hr16.gr hg205 (fun _ e => by cases e; omega)
            replace hb_g6 := hN205
            iterate 2 refine va rfl rfl ?_
            refine q_nil (k_then (q_ret ?_))
            refine e_retL (rs := [.cell 6 36, .tmp 7, .tmp 8]) (vs := [.agg #[(.int .i64 cm.op), (.string (strB (partV l))), (.slice K cm.keys.length k), (.slice V cm.value.length v), (.slice T cm.tags.length t), (.int .u64 (↑cm.life : Int)), (.int .u64 (↑cm.ver : Int)), (.string (strB cm.tag)), (.string (strB cm.pre)), (.string (strB cm.child))], (.slice A16 (txR l).length c16), (.bool (txO l))]) rfl ⟨⟨_, _, [(.int .i64 cm.op), (.string (strB (partV l))), (.slice K cm.keys.length k), (.slice V cm.value.length v), (.slice T cm.tags.length t), (.int .u64 (↑cm.life : Int)), (.int .u64 (↑cm.ver : Int)), (.string (strB cm.tag)), (.string (strB cm.pre)), (.string (strB cm.child))], rfl, ag36_10, hb_g6, rfl⟩, rfl, rfl, trivial⟩ ?_
            have f1 : rdS cm p l = { cm with key := partV l } := by rw [eb]; rfl
            have f2 : rdR p l = txR l := by rw [eb]; rfl
            have f3 : rdO p l = txO l := by rw [eb]; rfl
            rw [f1, f2, f3]
            exact ⟨⟨K, k, V, v, T, t, A16, c16, rfl, ⟨hK, hV, hT⟩, hr16⟩, hE⟩
          · have nb107 : ¬ p = 107 := fun e => hc5 (by rw [e]; rfl)
            refine wc_seq (wc_regionL ?_)
            refine ve rfl rfl rfl ?_
            refine va rfl rfl ?_
            refine q_nil (k_then ?_)
            refine wc_cond_d rfl (fun hc6 => ?_) (fun hc6 => ?_)
            · have eb : p = 118 := toNat_inj hc6
              refine wc_regionL ?_
              refine vm rfl rfl ?_
              refine wl_step (or_strBytesT bt32 Tryd.underlying9 rfl (by simp only [maxLen]; omega)) rfl rfl rfl ?_
              rintro v w204 ⟨A46, c46, rfl, hV46, he46⟩
              replace hK := RdT.ext hK he46
              replace hV := RdT.ext hV he46
              replace hT := RdT.ext hT he46
              replace hr := hr.ext he46
              replace hE := hE.tr he46
              replace hb_g3 := hb_g3.ext he46
              replace hb_g6 := hb_g6.ext he46
              replace hr16 := hr16.ext he46
              have hz_he46 := he46.size
              refine wl_val (ov_field0 (off := 3) fo36_3 rfl) rfl rfl rfl ?_
              refine wl_step0 (or_storeAt (cs' := [(.int .i64 cm.op), (.string (strB cm.key)), (.slice K cm.keys.length k), (.slice A46 (partV l).length c46), (.slice T cm.tags.length t), (.int .u64 (↑cm.life : Int)), (.int .u64 (↑cm.ver : Int)), (.string (strB cm.tag)), (.string (strB cm.pre)), (.string (strB cm.child))]) sz32 rfl rfl rfl hb_g3 rfl rfl) rfl rfl ?_
              rintro _ w205 ⟨hN205, hg205⟩
              have hz_hg205 := hg205.size
              replace hK := RdT.gr hK hg205 hb_g3 (by decide)
              replace hV := RdT.gr hV hg205 hb_g3 (by decide)
              replace hT := RdT.gr hT hg205 hb_g3 (by decide)
              replace hr := hr.gr hg205 (fun _ e => by cases e; omega)
              replace hE := hE.gr hg205 (fun _ e => by cases e; omega)
              replace hb_g6 := hb_g6.gr hg205 (by intro e; cases e; omega)
              replace hr16 := hr16.gr hg205 (fun _ e => by cases e; omega)
              replace hV46 := RdT.gr hV46 hg205 hb_g3 (by decide)
              replace hb_g3 := hN205
              refine q_nil (k_block (k_then (wc_seq (wc_regionL ?_))))
              refine wl_val (ov_loadBlk (cs := [(.int .i64 cm.op), (.string (strB cm.key)), (.slice K cm.keys.length k), (.slice A46 (partV l).length c46), (.slice T cm.tags.length t), (.int .u64 (↑cm.life : Int)), (.int .u64 (↑cm.ver : Int)), (.string (strB cm.tag)), (.string (strB cm.pre)), (.string (strB cm.child))]) ag36_10 rfl hb_g3) rfl rfl rfl ?_
              iterate 2 refine vm rfl rfl ?_
              refine wl_step0 (or_storeBlk (vs := [(.int .i64 cm.op), (.string (strB cm.key)), (.slice K cm.keys.length k), (.slice A46 (partV l).length c46), (.slice T cm.tags.length t), (.int .u64 (↑cm.life : Int)), (.int .u64 (↑cm.ver : Int)), (.string (strB cm.tag)), (.string (strB cm.pre)), (.string (strB cm.child))]) sz36 rfl rfl (by simp [Value.oneCell']) hb_g6 rfl) rfl rfl ?_
              rintro _ w206 ⟨hN206, hg206⟩
              have hz_hg206 := hg206.size
              replace hK := RdT.gr hK hg206 hb_g6 (by decide)
              replace hV := RdT.gr hV hg206 hb_g6 (by decide)
              replace hT := RdT.gr hT hg206 hb_g6 (by decide)
              replace hr := hr.gr hg206 (fun _ e => by cases e; omega)
              replace hE := hE.gr hg206 (fun _ e => by cases e; omega)
              replace hb_g3 := hb_g3.gr hg206 (by intro e; cases e; omega)
              replace hr16 := hr16.gr hg206 (fun _ e => by cases e; omega)
              replace hV46 := RdT.gr hV46 hg206 hb_g6 (by decide)
              replace hb_g6 := hN206
              iterate 2 refine va rfl rfl ?_
              refine q_nil (k_then (q_ret ?_))
              refine e_retL (rs := [.cell 6 36, .tmp 7, .tmp 8]) (vs := [.agg #[(.int .i64 cm.op), (.string (strB cm.key)), (.slice K cm.keys.length k), (.slice A46 (partV l).length c46), (.slice T cm.tags.length t), (.int .u64 (↑cm.life : Int)), (.int .u64 (↑cm.ver : Int)), (.string (strB cm.tag)), (.string (strB cm.pre)), (.string (strB cm.child))], (.slice A16 (txR l).length c16), (.bool (txO l))]) rfl ⟨⟨_, _, [(.int .i64 cm.op), (.string (strB cm.key)), (.slice K cm.keys.length k), (.slice A46 (partV l).length c46), (.slice T cm.tags.length t), (.int .u64 (↑cm.life : Int)), (.int .u64 (↑cm.ver : Int)), (.string (strB cm.tag)), (.string (strB cm.pre)), (.string (strB cm.child))], rfl, ag36_10, hb_g6, rfl⟩, rfl, rfl, trivial⟩ ?_
              have f1 : rdS cm p l = { cm with value := partV l } := by rw [eb]; rfl
              have f2 : rdR p l = txR l := by rw [eb]; rfl
              have f3 : rdO p l = txO l := by rw [eb]; rfl
              rw [f1, f2, f3]
              exact ⟨⟨K, k, A46, c46, T, t, A16, c16, rfl, ⟨hK, hV46, hT⟩, hr16⟩, hE⟩
            · have nb118 : ¬ p = 118 := fun e => hc6 (by rw [e]; rfl)
              refine wc_seq (wc_regionL ?_)
              refine ve rfl rfl rfl ?_
              refine va rfl rfl ?_
              refine q_nil (k_then ?_)
              refine wc_cond_F rfl (decide_eq_false hc3) ?_
              refine wc_seq (wc_regionL ?_)
              refine ve rfl rfl rfl ?_
              refine va rfl rfl ?_
              refine q_nil (k_then ?_)
              refine wc_cond_F rfl (decide_eq_false hc1) ?_
              refine wc_seq (wc_regionL ?_)
              refine ve rfl rfl rfl ?_
              refine va rfl rfl ?_
              refine q_nil (k_then ?_)
              refine wc_cond_F rfl (decide_eq_false hc2) ?_
              refine wc_seq (wc_regionL ?_)
              refine ve rfl rfl rfl ?_
              refine va rfl rfl ?_
              refine q_nil (k_then ?_)
              refine wc_cond_F rfl (decide_eq_false hc4) ?_
              refine wc_seq (wc_regionL ?_)
              refine ve rfl rfl rfl ?_
              refine va rfl rfl ?_
              refine q_nil (k_then ?_)
              refine wc_cond_d rfl (fun hc11 => ?_) (fun hc11 => ?_)
              · have eb : p = 103 := toNat_inj hc11
                refine wc_regionL ?_
                refine vm rfl rfl ?_
                refine wl_val (ov_field0 (off := 7) fo36_7 rfl) rfl rfl rfl ?_
                refine wl_step0 (or_storeAt (cs' := [(.int .i64 cm.op), (.string (strB cm.key)), (.slice K cm.keys.length k), (.slice V cm.value.length v), (.slice T cm.tags.length t), (.int .u64 (↑cm.life : Int)), (.int .u64 (↑cm.ver : Int)), (.string (strB (partV l))), (.string (strB cm.pre)), (.string (strB cm.child))]) sz9 rfl rfl rfl hb_g3 rfl rfl) rfl rfl ?_
                rintro _ w204 ⟨hN204, hg204⟩
                have hz_hg204 := hg204.size
                replace hK := RdT.gr hK hg204 hb_g3 (by decide)
                replace hV := RdT.gr hV hg204 hb_g3 (by decide)
                replace hT := RdT.gr hT hg204 hb_g3 (by decide)
                replace hr := hr.gr hg204 (fun _ e => by cases e; omega)
                replace hE := hE.gr hg204 (fun _ e => by cases e; omega)
                replace hb_g6 := hb_g6.gr hg204 (by intro e; cases e; omega)
                replace hr16 := hr16.gr hg204 (fun _ e => by cases e; omega)
                replace hb_g3 := hN204
                refine q_nil (k_block (k_then (wc_seq (wc_regionL ?_))))
                refine wl_val (ov_loadBlk (cs := [(.int .i64 cm.op), (.string (strB cm.key)), (.slice K cm.keys.length k), (.slice V cm.value.length v), (.slice T cm.tags.length t), (.int .u64 (↑cm.life : Int)), (.int .u64 (↑cm.ver : Int)), (.string (strB (partV l))), (.string (strB cm.pre)), (.string (strB cm.child))]) ag36_10 rfl hb_g3) rfl rfl rfl ?_
                iterate 2 refine vm rfl rfl ?_
                refine wl_step0 (or_storeBlk (vs := [(.int .i64 cm.op), (.string (strB cm.key)), (.slice K cm.keys.length k), (.slice V cm.value.length v), (.slice T cm.tags.length t), (.int .u64 (↑cm.life : Int)), (.int .u64 (↑cm.ver : Int)), (.string (strB (partV l))), (.string (strB cm.pre)), (.string (strB cm.child))]) sz36 rfl rfl (by simp [Value.oneCell']) hb_g6 rfl) rfl rfl ?_
                rintro _ w205 ⟨hN205, hg205⟩
                have hz_hg205 := hg205.size
                replace hK := RdT.gr hK hg205 hb_g6 (by decide)
                replace hV := RdT.gr hV hg205 hb_g6 (by decide)
                replace hT := RdT.gr hT hg205 hb_g6 (by decide)
                replace hr := hr.gr hg205 (fun _ e => by cases e; omega)
                replace hE := hE.gr hg205 (fun _ e => by cases e; omega)
                replace hb_g3 := hb_g3.gr hg205 (by intro e; cases e; omega)
                replace hr16 := hr16.gr hg205 (fun _ e => by cases e; omega)
                replace hb_g6 := hN205
                iterate 2 refine va rfl rfl ?_
                refine q_nil (k_then (q_ret ?_))
                refine e_retL (rs := [.cell 6 36, .tmp 7, .tmp 8]) (vs := [.agg #[(.int .i64 cm.op), (.string (strB cm.key)), (.slice K cm.keys.length k), (.slice V cm.value.length v), (.slice T cm.tags.length t), (.int .u64 (↑cm.life : Int)), (.int .u64 (↑cm.ver : Int)), (.string (strB (partV l))), (.string (strB cm.pre)), (.string (strB cm.child))], (.slice A16 (txR l).length c16), (.bool (txO l))]) rfl ⟨⟨_, _, [(.int .i64 cm.op), (.string (strB cm.key)), (.slice K cm.keys.length k), (.slice V cm.value.length v), (.slice T cm.tags.length t), (.int .u64 (↑cm.life : Int)), (.int .u64 (↑cm.ver : Int)), (.string (strB (partV l))), (.string (strB cm.pre)), (.string (strB cm.child))], rfl, ag36_10, hb_g6, rfl⟩, rfl, rfl, trivial⟩ ?_
                have f1 : rdS cm p l = { cm with tag := partV l } := by rw [eb]; rfl
                have f2 : rdR p l = txR l := by rw [eb]; rfl
                have f3 : rdO p l = txO l := by rw [eb]; rfl
                rw [f1, f2, f3]
                exact ⟨⟨K, k, V, v, T, t, A16, c16, rfl, ⟨hK, hV, hT⟩, hr16⟩, hE⟩
              · have nb103 : ¬ p = 103 := fun e => hc11 (by rw [e]; rfl)
                refine wc_seq (wc_regionL ?_)
                refine ve rfl rfl rfl ?_
                refine va rfl rfl ?_
                refine q_nil (k_then ?_)
                refine wc_cond_d rfl (fun hc12 => ?_) (fun hc12 => ?_)
                · have eb : p = 112 := toNat_inj hc12
                  refine wc_regionL ?_
                  refine vm rfl rfl ?_
                  refine wl_val (ov_field0 (off := 8) fo36_8 rfl) rfl rfl rfl ?_
                  refine wl_step0 (or_storeAt (cs' := [(.int .i64 cm.op), (.string (strB cm.key)), (.slice K cm.keys.length k), (.slice V cm.value.length v), (.slice T cm.tags.length t), (.int .u64 (↑cm.life : Int)), (.int .u64 (↑cm.ver : Int)), (.string (strB cm.tag)), (.string (strB (partV l))), (.string (strB cm.child))]) sz9 rfl rfl rfl hb_g3 rfl rfl) rfl rfl ?_
                  rintro _ w204 ⟨hN204, hg204⟩
                  have hz_hg204 := hg204.size
                  replace hK := RdT.gr hK hg204 hb_g3 (by decide)
                  replace hV := RdT.gr hV hg204 hb_g3 (by decide)
                  replace hT := RdT.gr hT hg204 hb_g3 (by decide)
                  replace hr := hr.gr hg204 (fun _ e => by cases e; omega)
                  replace hE := hE.gr hg204 (fun _ e => by cases e; omega)
                  replace hb_g6 := hb_g6.gr hg204 (by intro e; cases e; omega)
                  replace hr16 := hr16.gr hg204 (fun _ e => by cases e; omega)
                  replace hb_g3 := hN204
                  refine q_nil (k_block (k_then (wc_seq (wc_regionL ?_))))
                  refine wl_val (ov_loadBlk (cs := [(.int .i64 cm.op), (.string (strB cm.key)), (.slice K cm.keys.length k), (.slice V cm.value.length v), (.slice T cm.tags.length t), (.int .u64 (↑cm.life : Int)), (.int .u64 (↑cm.ver : Int)), (.string (strB cm.tag)), (.string (strB (partV l))), (.string (strB cm.child))]) ag36_10 rfl hb_g3) rfl rfl rfl ?_
                  iterate 2 refine vm rfl rfl ?_
                  refine wl_step0 (or_storeBlk (vs := [(.int .i64 cm.op), (.string (strB cm.key)), (.slice K cm.keys.length k), (.slice V cm.value.length v), (.slice T cm.tags.length t), (.int .u64 (↑cm.life : Int)), (.int .u64 (↑cm.ver : Int)), (.string (strB cm.tag)), (.string (strB (partV l))), (.string (strB cm.child))]) sz36 rfl rfl (by simp [Value.oneCell']) hb_g6 rfl) rfl rfl ?_
                  rintro _ w205 ⟨hN205, hg205⟩
                  have hz_hg205 := hg205.size
                  replace hK := RdT.gr hK hg205 hb_g6 (by decide)
                  replace hV := RdT.gr hV hg205 hb_g6 (by decide)
                  replace hT := RdT.gr hT hg205 hb_g6 (by decide)
                  replace hr := hr.gr hg205 (fun _ e => by cases e; omega)
                  replace hE := hE.gr hg205 (fun _ e => by cases e; omega)
                  replace hb_g3 := hb_g3.gr hg205 (by intro e; cases e; omega)
                  replace hr16 := hr16.gr hg205 (fun _ e => by cases e; omega)
                  replace hb_g6 := hN205
                  iterate 2 refine va rfl rfl ?_
                  refine q_nil (k_then (q_ret ?_))
                  refine e_retL (rs := [.cell 6 36, .tmp 7, .tmp 8]) (vs := [.agg #[(.int .i64 cm.op), (.string (strB cm.key)), (.slice K cm.keys.length k), (.slice V cm.value.length v), (.slice T cm.tags.length t), (.int .u64 (↑cm.life : Int)), (.int .u64 (↑cm.ver : Int)), (.string (strB cm.tag)), (.string (strB (partV l))), (.string (strB cm.child))], (.slice A16 (txR l).length c16), (.bool (txO l))]) rfl ⟨⟨_, _, [(.int .i64 cm.op), (.string (strB cm.key)), (.slice K cm.keys.length k), (.slice V cm.value.length v), (.slice T cm.tags.length t), (.int .u64 (↑cm.life : Int)), (.int .u64 (↑cm.ver : Int)), (.string (strB cm.tag)), (.string (strB (partV l))), (.string (strB cm.child))], rfl, ag36_10, hb_g6, rfl⟩, rfl, rfl, trivial⟩ ?_
                  have f1 : rdS cm p l = { cm with pre := partV l } := by rw [eb]; rfl
                  have f2 : rdR p l = txR l := by rw [eb]; rfl
                  have f3 : rdO p l = txO l := by rw [eb]; rfl
                  rw [f1, f2, f3]
                  exact ⟨⟨K, k, V, v, T, t, A16, c16, rfl, ⟨hK, hV, hT⟩, hr16⟩, hE⟩
                · have nb112 : ¬ p = 112 := fun e => hc12 (by rw [e]; rfl)
                  refine wc_seq (wc_regionL ?_)
                  refine ve rfl rfl rfl ?_
                  refine va rfl rfl ?_
                  refine q_nil (k_then ?_)
                  refine wc_cond_d rfl (fun hc13 => ?_) (fun hc13 => ?_)
                  · have eb : p = 99 := toNat_inj hc13
                    refine wc_regionL ?_
                    refine vm rfl rfl ?_
                    refine wl_val (ov_field0 (off := 9) fo36_9 rfl) rfl rfl rfl ?_
                    refine wl_step0 (or_storeAt (cs' := [(.int .i64 cm.op), (.string (strB cm.key)), (.slice K cm.keys.length k), (.slice V cm.value.length v), (.slice T cm.tags.length t), (.int .u64 (↑cm.life : Int)), (.int .u64 (↑cm.ver : Int)), (.string (strB cm.tag)), (.string (strB cm.pre)), (.string (strB (partV l)))]) sz9 rfl rfl rfl hb_g3 rfl rfl) rfl rfl ?_
                    rintro _ w204 ⟨hN204, hg204⟩
                    have hz_hg204 := hg204.size
                    replace hK := RdT.gr hK hg204 hb_g3 (by decide)
                    replace hV := RdT.gr hV hg204 hb_g3 (by decide)
                    replace hT := RdT.gr hT hg204 hb_g3 (by decide)
                    replace hr := hr.gr hg204 (fun _ e => by cases e; omega)
                    replace hE := hE.gr hg204 (fun _ e => by cases e; omega)
                    replace hb_g6 := hb_g6.gr hg204 (by intro e; cases e; omega)
                    replace hr16 := hr16.gr hg204 (fun _ e => by cases e; omega)
                    replace hb_g3 := hN204
                    refine q_nil (k_block (k_then (wc_seq (wc_regionL ?_))))
                    refine wl_val (ov_loadBlk (cs := [(.int .i64 cm.op), (.string (strB cm.key)), (.slice K cm.keys.length k), (.slice V cm.value.length v), (.slice T cm.tags.length t), (.int .u64 (↑cm.life : Int)), (.int .u64 (↑cm.ver : Int)), (.string (strB cm.tag)), (.string (strB cm.pre)), (.string (strB (partV l)))]) ag36_10 rfl hb_g3) rfl rfl rfl ?_
                    iterate 2 refine vm rfl rfl ?_
                    refine wl_step0 (or_storeBlk (vs := [(.int .i64 cm.op), (.string (strB cm.key)), (.slice K cm.keys.length k), (.slice V cm.value.length v), (.slice T cm.tags.length t), (.int .u64 (↑cm.life : Int)), (.int .u64 (↑cm.ver : Int)), (.string (strB cm.tag)), (.string (strB cm.pre)), (.string (strB (partV l)))]) sz36 rfl rfl (by simp [Value.oneCell']) hb_g6 rfl) rfl rfl ?_
                    rintro _ w205 ⟨hN205, hg205⟩
                    have hz_hg205 := hg205.size
                    replace hK := RdT.gr hK hg205 hb_g6 (by decide)
                    replace hV := RdT.gr hV hg205 hb_g6 (by decide)
                    replace hT := RdT.gr hT hg205 hb_g6 (by decide)
                    replace hr := hr.gr hg205 (fun _ e => by cases e; omega)
                    replace hE := hE.gr hg205 (fun _ e => by cases e; omega)
                    replace hb_g3 := hb_g3.gr hg205 (by intro e; cases e; omega)
                    replace hr16 := hr16.gr hg205 (fun _ e => by cases e; omega)
                    replace hb_g6 := hN205
                    iterate 2 refine va rfl rfl ?_
                    refine q_nil (k_then (q_ret ?_))
                    refine e_retL (rs := [.cell 6 36, .tmp 7, .tmp 8]) (vs := [.agg #[(.int .i64 cm.op), (.string (strB cm.key)), (.slice K cm.keys.length k), (.slice V cm.value.length v), (.slice T cm.tags.length t), (.int .u64 (↑cm.life : Int)), (.int .u64 (↑cm.ver : Int)), (.string (strB cm.tag)), (.string (strB cm.pre)), (.string (strB (partV l)))], (.slice A16 (txR l).length c16), (.bool (txO l))]) rfl ⟨⟨_, _, [(.int .i64 cm.op), (.string (strB cm.key)), (.slice K cm.keys.length k), (.slice V cm.value.length v), (.slice T cm.tags.length t), (.int .u64 (↑cm.life : Int)), (.int .u64 (↑cm.ver : Int)), (.string (strB cm.tag)), (.string (strB cm.pre)), (.string (strB (partV l)))], rfl, ag36_10, hb_g6, rfl⟩, rfl, rfl, trivial⟩ ?_
                    have f1 : rdS cm p l = { cm with child := partV l } := by rw [eb]; rfl
                    have f2 : rdR p l = txR l := by rw [eb]; rfl
                    have f3 : rdO p l = txO l := by rw [eb]; rfl
                    rw [f1, f2, f3]
                    exact ⟨⟨K, k, V, v, T, t, A16, c16, rfl, ⟨hK, hV, hT⟩, hr16⟩, hE⟩
                  · have nb99 : ¬ p = 99 := fun e => hc13 (by rw [e]; rfl)
                    refine q_skip (k_block (k_then (wc_seq (wc_regionL ?_))))
                    refine wl_val (ov_loadBlk (cs := [(.int .i64 cm.op), (.string (strB cm.key)), (.slice K cm.keys.length k), (.slice V cm.value.length v), (.slice T cm.tags.length t), (.int .u64 (↑cm.life : Int)), (.int .u64 (↑cm.ver : Int)), (.string (strB cm.tag)), (.string (strB cm.pre)), (.string (strB cm.child))]) ag36_10 rfl hb_g3) rfl rfl rfl ?_
                    iterate 2 refine vm rfl rfl ?_
                    refine wl_step0 (or_storeBlk (vs := [(.int .i64 cm.op), (.string (strB cm.key)), (.slice K cm.keys.length k), (.slice V cm.value.length v), (.slice T cm.tags.length t), (.int .u64 (↑cm.life : Int)), (.int .u64 (↑cm.ver : Int)), (.string (strB cm.tag)), (.string (strB cm.pre)), (.string (strB cm.child))]) sz36 rfl rfl (by simp [Value.oneCell']) hb_g6 rfl) rfl rfl ?_
                    rintro _ w204 ⟨hN204, hg204⟩
                    have hz_hg204 := hg204.size
                    replace hK := RdT.gr hK hg204 hb_g6 (by decide)
                    replace hV := RdT.gr hV hg204 hb_g6 (by decide)
                    replace hT := RdT.gr hT hg204 hb_g6 (by decide)
                    replace hr := hr.gr hg204 (fun _ e => by cases e; omega)
                    replace hE := hE.gr hg204 (fun _ e => by cases e; omega)
                    replace hb_g3 := hb_g3.gr hg204 (by intro e; cases e; omega)
                    replace hr16 := hr16.gr hg204 (fun _ e => by cases e; omega)
                    replace hb_g6 := hN204
                    iterate 2 refine va rfl rfl ?_
                    refine q_nil (k_then (q_ret ?_))
                    refine e_retL (rs := [.cell 6 36, .tmp 7, .tmp 8]) (vs := [.agg #[(.int .i64 cm.op), (.string (strB cm.key)), (.slice K cm.keys.length k), (.slice V cm.value.length v), (.slice T cm.tags.length t), (.int .u64 (↑cm.life : Int)), (.int .u64 (↑cm.ver : Int)), (.string (strB cm.tag)), (.string (strB cm.pre)), (.string (strB cm.child))], (.slice A16 (txR l).length c16), (.bool (txO l))]) rfl ⟨⟨_, _, [(.int .i64 cm.op), (.string (strB cm.key)), (.slice K cm.keys.length k), (.slice V cm.value.length v), (.slice T cm.tags.length t), (.int .u64 (↑cm.life : Int)), (.int .u64 (↑cm.ver : Int)), (.string (strB cm.tag)), (.string (strB cm.pre)), (.string (strB cm.child))], rfl, ag36_10, hb_g6, rfl⟩, rfl, rfl, trivial⟩ ?_
                    have f1 : rdS cm p l = cm := by unfold rdS; rw [if_neg nb107, if_neg nb118, if_neg nb116, if_neg nb108, if_neg nb110, if_neg nb109, if_neg nb103, if_neg nb112, if_neg nb99]
                    have f2 : rdR p l = txR l := by unfold rdR; rw [if_neg (by simp [nb108, nb110]), if_neg (by simp [nb116, nb109])]
                    have f3 : rdO p l = txO l := by unfold rdO; rw [if_neg (by simp [nb108, nb110]), if_neg (by simp [nb116, nb109])]
                    rw [f1, f2, f3]
                    exact ⟨⟨K, k, V, v, T, t, A16, c16, rfl, ⟨hK, hV, hT⟩, hr16⟩, hE⟩

theorem rread07_any (w : World) (code : UInt8) (lo hi : Nat) (A : Option Addr) (c : Nat) (l : List UInt8) (hr : RdB w lo hi A c l) (hlen : l.length ≤ 140737488355328) :
    Fn Tryd.prog 22 #[(.agg #[(.int .u8 (↑code.toNat : Int)), (.slice A l.length c)])] w (fun u w' => ∃ K k V v T t, u = .tuple #[.agg (cmdc ((refRead code l).getD (cmd0 0)) K k V v T t).toArray, .bool (refRead code l).isSome] ∧ (RdT w' 9 K ((refRead code l).getD (cmd0 0)).keys.length k (((refRead code l).getD (cmd0 0)).keys.flatMap strc) ∧ RdT w' 5 V ((refRead code l).getD (cmd0 0)).value.length v (((refRead code l).getD (cmd0 0)).value.map u8v) ∧ RdT w' 9 T ((refRead code l).getD (cmd0 0)).tags.length t (((refRead code l).getD (cmd0 0)).tags.flatMap strc)) ∧ Ext w w')  := by
  replace hr := hr.top
  have hE := ext_refl w
  have hct := code.toNat_lt
  refine fn_enter (args := [(.agg #[(.int .u8 (↑code.toNat : Int)), (.slice A l.length c)])]) Tryd.func22 rfl rfl rfl ?_
  show WC _ _ _ _ [(0, (.agg #[(.int .u8 (↑code.toNat : Int)), (.slice A l.length c)]))] _
  refine wc_seq (wc_regionL ?_)
  refine wl_step (or_box (cs := [(.int .u8 (↑code.toNat : Int)), (.slice A l.length c)]) rfl rfl) rfl rfl rfl ?_
  rintro v w1 ⟨g1, rfl, hb_g1, he1, hl1, hu1⟩
  replace hr := hr.ext he1
  replace hE := hE.tr he1
  have hz_he1 := he1.size
  refine wl_step (or_alloc (cs := [(.int .i64 0), (.string (strB [])), (.slice none 0 0), (.slice none 0 0), (.slice none 0 0), (.int .u64 0), (.int .u64 0), (.string (strB [])), (.string (strB [])), (.string (strB []))]) ze36 rfl) rfl rfl rfl ?_
  rintro v w2 ⟨g2, rfl, hb_g2, he2, hl2, hu2⟩
  replace hr := hr.ext he2
  replace hE := hE.tr he2
  replace hb_g1 := hb_g1.ext he2
  have hz_he2 := he2.size
  refine va rfl rfl ?_
  refine q_nil (k_then (wc_seq (wc_regionL ?_)))
  refine wl_val (ov_field0 (off := 0) fo40_0 rfl) rfl rfl rfl ?_
  refine wl_val (ov_loadAt oc5 rfl hb_g1 rfl) rfl rfl rfl ?_
  refine wl_val (ov_conv Tryd.underlying5 Tryd.underlying22 rfl (wi64 (by omega) (by omega))) rfl rfl rfl ?_
  refine wl_val (ov_build (cs := [(.int .i64 (↑code.toNat : Int)), (.string (strB [])), (.slice none 0 0), (.slice none 0 0), (.slice none 0 0), (.int .u64 0), (.int .u64 0), (.string (strB [])), (.string (strB [])), (.string (strB []))]) ze36 pl36 rfl rfl) rfl rfl rfl ?_
  refine wl_step (or_alloc (cs := [(.int .i64 0), (.string (strB [])), (.slice none 0 0), (.slice none 0 0), (.slice none 0 0), (.int .u64 0), (.int .u64 0), (.string (strB [])), (.string (strB [])), (.string (strB []))]) ze36 rfl) rfl rfl rfl ?_
  rintro v w3 ⟨g4, rfl, hb_g4, he4, hl4, hu4⟩
  replace hr := hr.ext he4
  replace hE := hE.tr he4
  replace hb_g1 := hb_g1.ext he4
  replace hb_g2 := hb_g2.ext he4
  have hz_he4 := he4.size
  refine wl_step0 (or_storeBlk (vs := [(.int .i64 (↑code.toNat : Int)), (.string (strB [])), (.slice none 0 0), (.slice none 0 0), (.slice none 0 0), (.int .u64 0), (.int .u64 0), (.string (strB [])), (.string (strB [])), (.string (strB []))]) sz36 rfl rfl (by simp [Value.oneCell']) hb_g4 rfl) rfl rfl ?_
  rintro _ w4 ⟨hN4, hg4⟩
  have hz_hg4 := hg4.size
  replace hr := hr.gr hg4 (fun _ e => by cases e; omega)
  replace hE := hE.gr hg4 (fun _ e => by cases e; omega)
  replace hb_g1 := hb_g1.gr hg4 (by intro e; cases e; omega)
  replace hb_g2 := hb_g2.gr hg4 (by intro e; cases e; omega)
  replace hb_g4 := hN4
  refine q_nil (k_then (wc_seq (wc_regionL ?_)))
  refine wl_val (ov_field0 (off := 1) fo40_1 rfl) rfl rfl rfl ?_
  refine wl_val (ov_loadAt oc32 rfl hb_g1 rfl) rfl rfl rfl ?_
  refine va rfl rfl ?_
  refine q_nil (k_then (wc_seq (wc_regionL ?_)))
  refine wl_val (ov_field0 (off := 0) fo36_0 rfl) rfl rfl rfl ?_
  refine wl_val (ov_loadAt oc22 rfl hb_g4 rfl) rfl rfl rfl ?_
  refine wl_val (or_call0 cl29 rfl rfl (rneeds_any _ (↑code.toNat : Int))) rfl rfl rfl ?_
  refine va rfl rfl ?_
  refine q_nil (k_then (wc_seq (wc_seq (wc_regionL ?_))))
  refine va rfl rfl ?_
  refine q_nil (k_then (wc_block ?_))
  refine wc_loop (σ := Nat × Cmd × List UInt8 × Option Addr × Nat) (fun s => (needs (↑code.toNat : Int)).length - s.1) (fun s => [(2, .pointer (some ⟨g2, 0, none⟩)), (4, .pointer (some ⟨g4, 0, none⟩)), (5, .slice s.2.2.2.1 s.2.2.1.length s.2.2.2.2), (6, .string (strB (needs (↑code.toNat : Int)))), (7, .int .i64 (s.1 : Int))]) (fun s w' => s.1 ≤ (needs (↑code.toNat : Int)).length ∧ rr (needs (↑code.toNat : Int)) (cmd0 (↑code.toNat : Int)) l = rr ((needs (↑code.toNat : Int)).drop s.1) s.2.1 s.2.2.1 ∧ s.2.2.1.length ≤ l.length ∧ Blk w' g2 36 [(.int .i64 0), (.string (strB ([] : List UInt8))), (.slice none 0 0), (.slice none 0 0), (.slice none 0 0), (.int .u64 0), (.int .u64 0), (.string (strB ([] : List UInt8))), (.string (strB ([] : List UInt8))), (.string (strB ([] : List UInt8)))] ∧ (∃ K1 k1 V1 v1 T1 t1, Blk w' g4 36 (cmdc s.2.1 K1 k1 V1 v1 T1 t1) ∧ RdT w' 9 K1 s.2.1.keys.length k1 (s.2.1.keys.flatMap strc) ∧ RdT w' 5 V1 s.2.1.value.length v1 (s.2.1.value.map u8v) ∧ RdT w' 9 T1 s.2.1.tags.length t1 (s.2.1.tags.flatMap strc)) ∧ RdB w' lo w.heap.size s.2.2.2.1 s.2.2.2.2 s.2.2.1 ∧ Ext w w') ((0, (cmd0 (↑code.toNat : Int)), l, A, c)) (⟨Nat.zero_le _, rfl, Nat.le_refl _, hb_g2, ⟨none, 0, none, 0, none, 0, hb_g4, RdT.nil _ _, RdT.nil _ _, RdT.nil _ _⟩, hr, hE⟩) (⟨rfl, rfl, rfl, rfl, rfl, trivial⟩) ?_
  rintro ⟨i, s, q, Aq, cq⟩ wq ⟨hi0, hfo, hql, hb_g2, ⟨K1, k1, V1, v1, T1, t1, hb_g4, hK1, hV1, hT1⟩, hrq, hE⟩
  show WC _ _ _ _ [(2, (.pointer (some ⟨g2, 0, none⟩))), (4, (.pointer (some ⟨g4, 0, none⟩))), (5, (.slice Aq q.length cq)), (6, (.string (strB (needs (↑code.toNat : Int))))), (7, (.int .i64 (↑i : Int)))] _
  simp only at hi0 hfo hql
  have hl5 := needs_len (↑code.toNat : Int)
  have hz_E := hE.size
  have hzb2 := hb_g2.lt
  have hzb4 := hb_g4.lt
  replace hb_g4 : Blk wq g4 36 [(.int .i64 s.op), (.string (strB s.key)), (.slice K1 s.keys.length k1), (.slice V1 s.value.length v1), (.slice T1 s.tags.length t1), (.int .u64 (↑s.life : Int)), (.int .u64 (↑s.ver : Int)), (.string (strB s.tag)), (.string (strB s.pre)), (.string (strB s.child))] := hb_g4
  refine wc_seq (wc_seq (wc_regionL ?_))
  iterate 2 refine vm rfl rfl ?_
  refine wl_val (ov_slen Tryd.underlying9 rfl) rfl rfl rfl ?_
  refine wl_val (ov_lss rfl rfl) rfl rfl rfl ?_
  refine q_nil (k_then ?_)
  refine wc_cond_d rfl (fun hc1 => ?_) (fun hc1 => ?_)
  · refine q_skip (k_then (wc_seq (wc_block (wc_seq ?_))))
    refine wc_drawA mixed ?_
    intro w5 hx7
    replace hb_g2 := hb_g2.ext hx7
    replace hb_g4 := hb_g4.ext hx7
    replace hrq := hrq.ext hx7
    replace hK1 := RdT.ext hK1 hx7
    replace hV1 := RdT.ext hV1 hx7
    replace hT1 := RdT.ext hT1 hx7
    replace hE := hE.tr hx7
    have hz_hx7 := hx7.size
    refine wa_main (RT w5.heap.size) rt1 rt2 rt3 0 14 [(27, eqv (.agg #[(.int .i64 s.op), (.string (strB s.key)), (.slice K1 s.keys.length k1), (.slice V1 s.value.length v1), (.slice T1 s.tags.length t1), (.int .u64 (↑s.life : Int)), (.int .u64 (↑s.ver : Int)), (.string (strB s.tag)), (.string (strB s.pre)), (.string (strB s.child))])), (28, eqv (.string (strB (needs (↑code.toNat : Int))))), (29, eqv (.int .i64 (↑i : Int))), (30, eqv (.int .u8 (↑((needs (↑code.toNat : Int)).getD i 0).toNat : Int))), (31, eqv (.slice Aq q.length cq)), (32, (fun v wz => RdOut (rdS s ((needs (↑code.toNat : Int)).getD i 0) q) (rdR ((needs (↑code.toNat : Int)).getD i 0) q) (rdO ((needs (↑code.toNat : Int)).getD i 0) q) lo w.heap.size wz v)), (26, (fun v wz => RdOut (rdS s ((needs (↑code.toNat : Int)).getD i 0) q) (rdR ((needs (↑code.toNat : Int)).getD i 0) q) (rdO ((needs (↑code.toNat : Int)).getD i 0) q) lo w.heap.size wz v)), (33, (fun v wz => CmdOut (rdS s ((needs (↑code.toNat : Int)).getD i 0) q) wz v)), (34, (fun v wz => ∃ Ar cr, v = .slice Ar (rdR ((needs (↑code.toNat : Int)).getD i 0) q).length cr ∧ RdB wz lo w.heap.size Ar cr (rdR ((needs (↑code.toNat : Int)).getD i 0) q))), (35, eqv (.bool (rdO ((needs (↑code.toNat : Int)).getD i 0) q))), (8, (fun v w => ∃ g8, v = .pointer (some ⟨g8, 0, none⟩) ∧ Blk w g8 36 [(.int .i64 0), (.string (strB [])), (.slice none 0 0), (.slice none 0 0), (.slice none 0 0), (.int .u64 0), (.int .u64 0), (.string (strB [])), (.string (strB [])), (.string (strB []))] ∧ w5.heap.size ≤ g8)), (8, (fun v wz => CmdAt (rdS s ((needs (↑code.toNat : Int)).getD i 0) q) w5.heap.size wz v)), (9, (fun v wz => ∃ Ar cr, v = .slice Ar (rdR ((needs (↑code.toNat : Int)).getD i 0) q).length cr ∧ RdB wz lo w.heap.size Ar cr (rdR ((needs (↑code.toNat : Int)).getD i 0) q))), (10, eqv (.bool (rdO ((needs (↑code.toNat : Int)).getD i 0) q)))] [[], [], [], [1, 2], [], [0, 3, 4], [5], [6], [6], [6], [], [7, 10], [8], [9]] [[36], [36], [36], [36], [36], [36], [36], [36], [36], [36], [], [], [36], [36]] [[], [], [], [], [], [], [], [], [36], [36], [], [], [36], [36]] [none, none, none, none, none, none, none, none, none, none, none, some 36, none, none] [true, true, true, true, true, true, true, true, true, true, false, true, true, true] [36] _ [] [] (fun _ _ h => h) trivial (by kernel_rfl) rfl ⟨stbA (fun _ => stb_eqv _) _, stbA (fun _ => stb_eqv _) _, stbA (fun _ => stb_eqv _) _, stbA (fun _ => stb_eqv _) _, stbA (fun _ => stb_eqv _) _, ⟨fun v w w' h he => h.ext he, fun e he => by simp at he; subst he; exact fun v w w' h k => RdOut.rt h k (by omega)⟩, ⟨fun v w w' h he => h.ext he, fun e he => by simp at he; subst he; exact fun v w w' h k => RdOut.rt h k (by omega)⟩, ⟨fun v w w' h he => h.ext he, fun e he => by simp at he; subst he; exact fun v w w' h k => CmdOut.rt h k⟩, ⟨fun v w w' ⟨A, c, hv, h⟩ he => ⟨A, c, hv, h.ext he⟩, fun e he => by simp at he; subst he; exact fun v w w' ⟨A, c, hv, h⟩ k => ⟨A, c, hv, RT.rd k h (by omega)⟩⟩, stbA (fun _ => stb_eqv _) _, stb0 ((fun v w w' ⟨g, hv, hb, hl⟩ he => ⟨g, hv, hb.ext he, hl⟩)), stb0 ((fun v w w' h he => h.ext he)), ⟨fun v w w' ⟨A, c, hv, h⟩ he => ⟨A, c, hv, h.ext he⟩, fun e he => by simp at he; subst he; exact fun v w w' ⟨A, c, hv, h⟩ k => ⟨A, c, hv, RT.rd k h (by omega)⟩⟩, stbA (fun _ => stb_eqv _) _, trivial⟩ ⟨?_, ?_, ?_, ?_, ?_, ?_, ?_, ?_, ?_, ?_, ?_, ?_, ?_, ?_, trivial⟩ ?_
    · intro wd hxE
      replace hxE : Ext _ _ := rt_nil hxE
      replace hb_g2 := hb_g2.ext hxE
      replace hb_g4 := hb_g4.ext hxE
      replace hrq := hrq.ext hxE
      replace hK1 := RdT.ext hK1 hxE
      replace hV1 := RdT.ext hV1 hxE
      replace hT1 := RdT.ext hT1 hxE
      replace hE := hE.tr hxE
      have hz_hxE := hxE.size
      show OpG _ _ _ _ _ _
      exact og_plain rfl (ox_val (ov_loadBlk (cs := [(.int .i64 s.op), (.string (strB s.key)), (.slice K1 s.keys.length k1), (.slice V1 s.value.length v1), (.slice T1 s.tags.length t1), (.int .u64 (↑s.life : Int)), (.int .u64 (↑s.ver : Int)), (.string (strB s.tag)), (.string (strB s.pre)), (.string (strB s.child))]) ag36_10 rfl hb_g4))
    · intro wd hxE
      replace hxE : Ext _ _ := rt_nil hxE
      replace hb_g2 := hb_g2.ext hxE
      replace hb_g4 := hb_g4.ext hxE
      replace hrq := hrq.ext hxE
      replace hK1 := RdT.ext hK1 hxE
      replace hV1 := RdT.ext hV1 hxE
      replace hT1 := RdT.ext hT1 hxE
      replace hE := hE.tr hxE
      have hz_hxE := hxE.size
      show OpG _ _ _ _ _ _
      exact og_plain rfl (ox_val (ov_move rfl))
    · intro wd hxE
      replace hxE : Ext _ _ := rt_nil hxE
      replace hb_g2 := hb_g2.ext hxE
      replace hb_g4 := hb_g4.ext hxE
      replace hrq := hrq.ext hxE
      replace hK1 := RdT.ext hK1 hxE
      replace hV1 := RdT.ext hV1 hxE
      replace hT1 := RdT.ext hT1 hxE
      replace hE := hE.tr hxE
      have hz_hxE := hxE.size
      show OpG _ _ _ _ _ _
      exact og_plain rfl (ox_val (ov_move rfl))
    · intro wd hxE
      replace hxE : Ext _ _ := rt_nil hxE
      replace hb_g2 := hb_g2.ext hxE
      replace hb_g4 := hb_g4.ext hxE
      replace hrq := hrq.ext hxE
      replace hK1 := RdT.ext hK1 hxE
      replace hV1 := RdT.ext hV1 hxE
      replace hT1 := RdT.ext hT1 hxE
      replace hE := hE.tr hxE
      have hz_hxE := hxE.size
      rintro _ rfl
      rintro _ rfl
      show OpG _ _ _ _ _ _
      exact og_plain rfl (ox_val (ov_sindex (l := (needs (↑code.toNat : Int))) (i := (↑i : Int)) Tryd.underlying9 rfl rfl (by omega) (by omega)))
    · intro wd hxE
      replace hxE : Ext _ _ := rt_nil hxE
      replace hb_g2 := hb_g2.ext hxE
      replace hb_g4 := hb_g4.ext hxE
      replace hrq := hrq.ext hxE
      replace hK1 := RdT.ext hK1 hxE
      replace hV1 := RdT.ext hV1 hxE
      replace hT1 := RdT.ext hT1 hxE
      replace hE := hE.tr hxE
      have hz_hxE := hxE.size
      show OpG _ _ _ _ _ _
      exact og_plain rfl (ox_val (ov_move rfl))
    · intro wd hxE
      replace hxE : Ext _ _ := rt_nil hxE
      replace hb_g2 := hb_g2.ext hxE
      replace hb_g4 := hb_g4.ext hxE
      replace hrq := hrq.ext hxE
      replace hK1 := RdT.ext hK1 hxE
      replace hV1 := RdT.ext hV1 hxE
      replace hT1 := RdT.ext hT1 hxE
      replace hE := hE.tr hxE
      have hz_hxE := hxE.size
      rintro _ rfl
      rintro _ rfl
      rintro _ rfl
      show OpG _ _ _ _ _ _
      refine og_plain rfl (OpRun.mono (or_call0 cl34 rfl rfl (read07_any _ s K1 k1 V1 v1 T1 t1 hK1 hV1 hT1 ((needs (↑code.toNat : Int)).getD i 0) lo w.heap.size Aq cq q hrq (by omega) (by omega))) ?_)
      rintro v w6 ⟨hro, he32⟩
      replace hb_g2 := hb_g2.ext he32
      replace hb_g4 := hb_g4.ext he32
      replace hrq := hrq.ext he32
      replace hK1 := RdT.ext hK1 he32
      replace hV1 := RdT.ext hV1 he32
      replace hT1 := RdT.ext hT1 he32
      replace hE := hE.tr he32
      have hz_he32 := he32.size
      exact ⟨hro, he32⟩
    · intro wd hxE
      replace hxE : Ext _ _ := rt_nil hxE
      replace hb_g2 := hb_g2.ext hxE
      replace hb_g4 := hb_g4.ext hxE
      replace hrq := hrq.ext hxE
      replace hK1 := RdT.ext hK1 hxE
      replace hV1 := RdT.ext hV1 hxE
      replace hT1 := RdT.ext hT1 hxE
      replace hE := hE.tr hxE
      have hz_hxE := hxE.size
      rintro _ ⟨K2, k2, V2, v2, T2, t2, Ar, cr, rfl, ⟨hK2, hV2, hT2⟩, hrr⟩
      show OpG _ _ _ _ _ _
      refine og_plain rfl (OpRun.mono (ov_move rfl) ?_)
      rintro v _ ⟨rfl, rfl⟩
      exact ⟨⟨K2, k2, V2, v2, T2, t2, Ar, cr, rfl, ⟨hK2, hV2, hT2⟩, hrr⟩, ext_refl _⟩
    · intro wd hxE
      replace hxE : Ext _ _ := rt_nil hxE
      replace hb_g2 := hb_g2.ext hxE
      replace hb_g4 := hb_g4.ext hxE
      replace hrq := hrq.ext hxE
      replace hK1 := RdT.ext hK1 hxE
      replace hV1 := RdT.ext hV1 hxE
      replace hT1 := RdT.ext hT1 hxE
      replace hE := hE.tr hxE
      have hz_hxE := hxE.size
      rintro _ ⟨K5, k5, V5, v5, T5, t5, Ar, cr, rfl, ⟨hK5, hV5, hT5⟩, hrr⟩
      show OpG _ _ _ _ _ _
      refine og_plain rfl (OpRun.mono (ov_extract rfl rfl) ?_)
      rintro v _ ⟨rfl, rfl⟩
      exact ⟨⟨K5, k5, V5, v5, T5, t5, rfl, hK5, hV5, hT5⟩, ext_refl _⟩
    · intro wd hxE
      have hz_hxE := hxE.size
      replace hb_g2 := RT.bkB hxE hb_g2 (by omega)
      replace hb_g4 := RT.bkB hxE hb_g4 (by omega)
      replace hrq := hxE.rd hrq (by omega)
      replace hK1 := RdT.rt hK1 hxE (by decide)
      replace hV1 := RdT.rt hV1 hxE (by decide)
      replace hT1 := RdT.rt hT1 hxE (by decide)
      replace hE := hxE.e0 hE (by omega)
      rintro _ ⟨K5, k5, V5, v5, T5, t5, Ar, cr, rfl, ⟨hK5, hV5, hT5⟩, hrr⟩
      show OpG _ _ _ _ _ _
      refine og_plain rfl (OpRun.mono (ov_extract rfl rfl) ?_)
      rintro v _ ⟨rfl, rfl⟩
      exact ⟨⟨Ar, cr, rfl, hrr⟩, ext_refl _⟩
    · intro wd hxE
      have hz_hxE := hxE.size
      replace hb_g2 := RT.bkB hxE hb_g2 (by omega)
      replace hb_g4 := RT.bkB hxE hb_g4 (by omega)
      replace hrq := hxE.rd hrq (by omega)
      replace hK1 := RdT.rt hK1 hxE (by decide)
      replace hV1 := RdT.rt hV1 hxE (by decide)
      replace hT1 := RdT.rt hT1 hxE (by decide)
      replace hE := hxE.e0 hE (by omega)
      rintro _ ⟨K5, k5, V5, v5, T5, t5, Ar, cr, rfl, ⟨hK5, hV5, hT5⟩, hrr⟩
      show OpG _ _ _ _ _ _
      exact og_plain rfl (ox_val (ov_extract rfl rfl))
    · intro wd hxE
      replace hxE : Ext _ _ := rt_nil hxE
      replace hb_g2 := hb_g2.ext hxE
      replace hb_g4 := hb_g4.ext hxE
      replace hrq := hrq.ext hxE
      replace hK1 := RdT.ext hK1 hxE
      replace hV1 := RdT.ext hV1 hxE
      replace hT1 := RdT.ext hT1 hxE
      replace hE := hE.tr hxE
      have hz_hxE := hxE.size
      show OpG _ _ _ _ _ _
      refine og_plain rfl (OpRun.mono (or_alloc (cs := [(.int .i64 0), (.string (strB [])), (.slice none 0 0), (.slice none 0 0), (.slice none 0 0), (.int .u64 0), (.int .u64 0), (.string (strB [])), (.string (strB [])), (.string (strB []))]) ze36 rfl) ?_)
      rintro v w6 ⟨g8, rfl, hb_g8, he8, hl8, hu8⟩
      replace hb_g2 := hb_g2.ext he8
      replace hb_g4 := hb_g4.ext he8
      replace hrq := hrq.ext he8
      replace hK1 := RdT.ext hK1 he8
      replace hV1 := RdT.ext hV1 he8
      replace hT1 := RdT.ext hT1 he8
      replace hE := hE.tr he8
      have hz_he8 := he8.size
      exact ⟨⟨g8, rfl, hb_g8, by omega⟩, he8⟩
    · intro wd hxE
      replace hxE : Ext _ _ := rt_nil hxE
      replace hb_g2 := hb_g2.ext hxE
      replace hb_g4 := hb_g4.ext hxE
      replace hrq := hrq.ext hxE
      replace hK1 := RdT.ext hK1 hxE
      replace hV1 := RdT.ext hV1 hxE
      replace hT1 := RdT.ext hT1 hxE
      replace hE := hE.tr hxE
      have hz_hxE := hxE.size
      rintro _ ⟨K6, k6, V6, v6, T6, t6, rfl, hK6, hV6, hT6⟩
      rintro _ ⟨g8, rfl, hb_g8, hl8⟩
      show OpG _ _ _ _ _ _
      have hb0 := hb_g8
      refine og_plain rfl (OpRun.mono (or_storeBlk (vs := [(.int .i64 (rdS s ((needs (↑code.toNat : Int)).getD i 0) q).op), (.string (strB (rdS s ((needs (↑code.toNat : Int)).getD i 0) q).key)), (.slice K6 (rdS s ((needs (↑code.toNat : Int)).getD i 0) q).keys.length k6), (.slice V6 (rdS s ((needs (↑code.toNat : Int)).getD i 0) q).value.length v6), (.slice T6 (rdS s ((needs (↑code.toNat : Int)).getD i 0) q).tags.length t6), (.int .u64 (↑(rdS s ((needs (↑code.toNat : Int)).getD i 0) q).life : Int)), (.int .u64 (↑(rdS s ((needs (↑code.toNat : Int)).getD i 0) q).ver : Int)), (.string (strB (rdS s ((needs (↑code.toNat : Int)).getD i 0) q).tag)), (.string (strB (rdS s ((needs (↑code.toNat : Int)).getD i 0) q).pre)), (.string (strB (rdS s ((needs (↑code.toNat : Int)).getD i 0) q).child))]) sz36 rfl rfl (by simp [Value.oneCell']) hb_g8 rfl) ?_)
      rintro _ w6 ⟨hN6, hg6⟩
      have hz_hg6 := hg6.size
      replace hb_g2 := hb_g2.gr hg6 (by intro e; cases e; omega)
      replace hb_g4 := hb_g4.gr hg6 (by intro e; cases e; omega)
      replace hrq := hrq.gr hg6 (fun _ e => by cases e; omega)
      replace hK1 := RdT.gr hK1 hg6 hb_g8 (by decide)
      replace hV1 := RdT.gr hV1 hg6 hb_g8 (by decide)
      replace hT1 := RdT.gr hT1 hg6 hb_g8 (by decide)
      replace hE := hE.gr hg6 (fun _ e => by cases e; omega)
      replace hK6 := RdT.gr hK6 hg6 hb_g8 (by decide)
      replace hV6 := RdT.gr hV6 hg6 hb_g8 (by decide)
      replace hT6 := RdT.gr hT6 hg6 hb_g8 (by decide)
      replace hb_g8 := hN6
      exact ⟨⟨g8, rfl, hl8, K6, k6, V6, v6, T6, t6, hb_g8, hK6, hV6, hT6⟩, rt_store hg6 hb0 (by omega)⟩
    · intro wd hxE
      have hz_hxE := hxE.size
      replace hb_g2 := RT.bkB hxE hb_g2 (by omega)
      replace hb_g4 := RT.bkB hxE hb_g4 (by omega)
      replace hrq := hxE.rd hrq (by omega)
      replace hK1 := RdT.rt hK1 hxE (by decide)
      replace hV1 := RdT.rt hV1 hxE (by decide)
      replace hT1 := RdT.rt hT1 hxE (by decide)
      replace hE := hxE.e0 hE (by omega)
      rintro _ ⟨Ar, cr, rfl, hrr⟩
      show OpG _ _ _ _ _ _
      refine og_plain rfl (OpRun.mono (ov_assign rfl) ?_)
      rintro v _ ⟨rfl, rfl⟩
      exact ⟨⟨Ar, cr, rfl, hrr⟩, ext_refl _⟩
    · intro wd hxE
      have hz_hxE := hxE.size
      replace hb_g2 := RT.bkB hxE hb_g2 (by omega)
      replace hb_g4 := RT.bkB hxE hb_g4 (by omega)
      replace hrq := hxE.rd hrq (by omega)
      replace hK1 := RdT.rt hK1 hxE (by decide)
      replace hV1 := RdT.rt hV1 hxE (by decide)
      replace hT1 := RdT.rt hT1 hxE (by decide)
      replace hE := hxE.e0 hE (by omega)
      rintro _ rfl
      show OpG _ _ _ _ _ _
      exact og_plain rfl (ox_val (ov_assign rfl))
    · intro wf7 hf7
      have hz_hf7 := hf7.size
      replace hb_g2 := RT.bkB hf7 hb_g2 (by omega)
      replace hb_g4 := RT.bkB hf7 hb_g4 (by omega)
      replace hrq := hf7.rd hrq (by omega)
      replace hK1 := RdT.rt hK1 hf7 (by decide)
      replace hV1 := RdT.rt hV1 hf7 (by decide)
      replace hT1 := RdT.rt hT1 hf7 (by decide)
      replace hE := hf7.e0 hE (by omega)
      rintro _ rfl
      rintro _ rfl
      rintro _ rfl
      rintro _ rfl
      rintro _ rfl
      rintro _ ⟨K2, k2, V2, v2, T2, t2, Ar, cr, rfl, ⟨hK2, hV2, hT2⟩, hrr⟩
      rintro _ ⟨K5, k5, V5, v5, T5, t5, Ar, cr, rfl, ⟨hK5, hV5, hT5⟩, hrr⟩
      rintro _ ⟨K6, k6, V6, v6, T6, t6, rfl, hK6, hV6, hT6⟩
      rintro _ ⟨Ar, cr, rfl, hrr⟩
      rintro _ rfl
      intro v8
      rintro _ ⟨g8, rfl, hl8, K4, k4, V4, v4, T4, t4, hb_g8, hK4, hV4, hT4⟩
      rintro _ ⟨Ar, cr, rfl, hrr⟩
      rintro _ rfl
      refine wa_tail (by kernel_rfl) ?_
      show WL _ _ _ [] _ _ _
      refine q_nil (k_then (wc_seq (wc_seq (wc_regionL ?_))))
      refine vm rfl rfl ?_
      refine wl_val (ov_not rfl) rfl rfl rfl ?_
      refine q_nil (k_then ?_)
      refine wc_cond rfl (fun hc2 => ?_) (fun hc2 => ?_)
      · have eo : (rdO ((needs (↑code.toNat : Int)).getD i 0) q) = false := by simpa using hc2
        have hrn : rr (needs (↑code.toNat : Int)) (cmd0 (↑code.toNat : Int)) l = none := by rw [hfo, drop_getD (by omega), rr, if_neg (by rw [eo]; decide)]
        have hnone : refRead code l = none := by unfold refRead; rw [hrn]
        refine wc_seq (wc_regionL ?_)
        refine wl_val (ov_build (cs := [(.int .i64 0), (.string (strB [])), (.slice none 0 0), (.slice none 0 0), (.slice none 0 0), (.int .u64 0), (.int .u64 0), (.string (strB [])), (.string (strB [])), (.string (strB []))]) ze36 pl36 rfl rfl) rfl rfl rfl ?_
        refine wl_step0 (or_storeBlk (vs := [(.int .i64 0), (.string (strB [])), (.slice none 0 0), (.slice none 0 0), (.slice none 0 0), (.int .u64 0), (.int .u64 0), (.string (strB [])), (.string (strB [])), (.string (strB []))]) sz36 rfl rfl (by simp [Value.oneCell']) hb_g2 rfl) rfl rfl ?_
        rintro _ w6 ⟨hN6, hg6⟩
        have hz_hg6 := hg6.size
        replace hb_g4 := hb_g4.gr hg6 (by intro e; cases e; omega)
        replace hrq := hrq.gr hg6 (fun _ e => by cases e; omega)
        replace hK1 := RdT.gr hK1 hg6 hb_g2 (by decide)
        replace hV1 := RdT.gr hV1 hg6 hb_g2 (by decide)
        replace hT1 := RdT.gr hT1 hg6 hb_g2 (by decide)
        replace hE := hE.gr hg6 (fun _ e => by cases e; omega)
        replace hK2 := RdT.gr hK2 hg6 hb_g2 (by decide)
        replace hV2 := RdT.gr hV2 hg6 hb_g2 (by decide)
        replace hT2 := RdT.gr hT2 hg6 hb_g2 (by decide)
        replace hK5 := RdT.gr hK5 hg6 hb_g2 (by decide)
        replace hV5 := RdT.gr hV5 hg6 hb_g2 (by decide)
        replace hT5 := RdT.gr hT5 hg6 hb_g2 (by decide)
        replace hK6 := RdT.gr hK6 hg6 hb_g2 (by decide)
        replace hV6 := RdT.gr hV6 hg6 hb_g2 (by decide)
        replace hT6 := RdT.gr hT6 hg6 hb_g2 (by decide)
        replace hK4 := RdT.gr hK4 hg6 hb_g2 (by decide)
        replace hV4 := RdT.gr hV4 hg6 hb_g2 (by decide)
        replace hT4 := RdT.gr hT4 hg6 hb_g2 (by decide)
        replace hb_g8 := hb_g8.gr hg6 (by intro e; cases e; omega)
        replace hrr := hrr.gr hg6 (fun _ e => by cases e; omega)
        replace hb_g2 := hN6
        refine va rfl rfl ?_
        refine q_nil (k_then (q_ret (k_thenR (k_blockR (k_thenR (k_thenR (k_blockR (k_thenR ?_))))))))
        refine e_retL (rs := [.cell 2 36, .tmp 3]) (vs := [.agg #[(.int .i64 0), (.string (strB [])), (.slice none 0 0), (.slice none 0 0), (.slice none 0 0), (.int .u64 0), (.int .u64 0), (.string (strB [])), (.string (strB [])), (.string (strB []))], (.bool false)]) rfl ⟨⟨_, _, [(.int .i64 0), (.string (strB [])), (.slice none 0 0), (.slice none 0 0), (.slice none 0 0), (.int .u64 0), (.int .u64 0), (.string (strB [])), (.string (strB [])), (.string (strB []))], rfl, ag36_10, hb_g2, rfl⟩, rfl, trivial⟩ ?_
        rw [hnone]
        exact ⟨none, 0, none, 0, none, 0, rfl, ⟨RdT.nil _ _, RdT.nil _ _, RdT.nil _ _⟩, hE⟩
      · have eo : (rdO ((needs (↑code.toNat : Int)).getD i 0) q) = true := by simpa using hc2
        refine q_skip (k_then (wc_seq (wc_regionL ?_)))
        refine wl_val (ov_loadBlk (cs := [(.int .i64 (rdS s ((needs (↑code.toNat : Int)).getD i 0) q).op), (.string (strB (rdS s ((needs (↑code.toNat : Int)).getD i 0) q).key)), (.slice K4 (rdS s ((needs (↑code.toNat : Int)).getD i 0) q).keys.length k4), (.slice V4 (rdS s ((needs (↑code.toNat : Int)).getD i 0) q).value.length v4), (.slice T4 (rdS s ((needs (↑code.toNat : Int)).getD i 0) q).tags.length t4), (.int .u64 (↑(rdS s ((needs (↑code.toNat : Int)).getD i 0) q).life : Int)), (.int .u64 (↑(rdS s ((needs (↑code.toNat : Int)).getD i 0) q).ver : Int)), (.string (strB (rdS s ((needs (↑code.toNat : Int)).getD i 0) q).tag)), (.string (strB (rdS s ((needs (↑code.toNat : Int)).getD i 0) q).pre)), (.string (strB (rdS s ((needs (↑code.toNat : Int)).getD i 0) q).child))]) ag36_10 rfl hb_g8) rfl rfl rfl ?_
        refine wl_step0 (or_storeBlk (vs := [(.int .i64 (rdS s ((needs (↑code.toNat : Int)).getD i 0) q).op), (.string (strB (rdS s ((needs (↑code.toNat : Int)).getD i 0) q).key)), (.slice K4 (rdS s ((needs (↑code.toNat : Int)).getD i 0) q).keys.length k4), (.slice V4 (rdS s ((needs (↑code.toNat : Int)).getD i 0) q).value.length v4), (.slice T4 (rdS s ((needs (↑code.toNat : Int)).getD i 0) q).tags.length t4), (.int .u64 (↑(rdS s ((needs (↑code.toNat : Int)).getD i 0) q).life : Int)), (.int .u64 (↑(rdS s ((needs (↑code.toNat : Int)).getD i 0) q).ver : Int)), (.string (strB (rdS s ((needs (↑code.toNat : Int)).getD i 0) q).tag)), (.string (strB (rdS s ((needs (↑code.toNat : Int)).getD i 0) q).pre)), (.string (strB (rdS s ((needs (↑code.toNat : Int)).getD i 0) q).child))]) sz36 rfl rfl (by simp [Value.oneCell']) hb_g4 rfl) rfl rfl ?_
        rintro _ w206 ⟨hN206, hg206⟩
        have hz_hg206 := hg206.size
        replace hb_g2 := hb_g2.gr hg206 (by intro e; cases e; omega)
        replace hrq := hrq.gr hg206 (fun _ e => by cases e; omega)
        replace hK1 := RdT.gr hK1 hg206 hb_g4 (by decide)
        replace hV1 := RdT.gr hV1 hg206 hb_g4 (by decide)
        replace hT1 := RdT.gr hT1 hg206 hb_g4 (by decide)
        replace hE := hE.gr hg206 (fun _ e => by cases e; omega)
        replace hK2 := RdT.gr hK2 hg206 hb_g4 (by decide)
        replace hV2 := RdT.gr hV2 hg206 hb_g4 (by decide)
        replace hT2 := RdT.gr hT2 hg206 hb_g4 (by decide)
        replace hK5 := RdT.gr hK5 hg206 hb_g4 (by decide)
        replace hV5 := RdT.gr hV5 hg206 hb_g4 (by decide)
        replace hT5 := RdT.gr hT5 hg206 hb_g4 (by decide)
        replace hK6 := RdT.gr hK6 hg206 hb_g4 (by decide)
        replace hV6 := RdT.gr hV6 hg206 hb_g4 (by decide)
        replace hT6 := RdT.gr hT6 hg206 hb_g4 (by decide)
        replace hK4 := RdT.gr hK4 hg206 hb_g4 (by decide)
        replace hV4 := RdT.gr hV4 hg206 hb_g4 (by decide)
        replace hT4 := RdT.gr hT4 hg206 hb_g4 (by decide)
        replace hb_g8 := hb_g8.gr hg206 (by intro e; cases e; omega)
        replace hrr := hrr.gr hg206 (fun _ e => by cases e; omega)
        replace hb_g4 := hN206
        refine q_nil (k_then (wc_regionL ?_))
        refine vm rfl rfl ?_
        refine va rfl rfl ?_
        refine q_nil (k_block (k_then (wc_regionL ?_)))
        refine vm rfl rfl ?_
        refine wl_val (ov_add rfl rfl (wi64 (by omega) (by omega))) rfl rfl rfl ?_
        refine va rfl rfl ?_
        refine q_nil ?_
        refine k_loop ((i + 1, (rdS s ((needs (↑code.toNat : Int)).getD i 0) q), (rdR ((needs (↑code.toNat : Int)).getD i 0) q), Ar, cr)) (by show (needs (↑code.toNat : Int)).length - (i + 1) < (needs (↑code.toNat : Int)).length - i; omega) (⟨rfl, rfl, rfl, rfl, rfl, trivial⟩) (⟨by show i + 1 ≤ _; omega, by show rr (needs (↑code.toNat : Int)) (cmd0 (↑code.toNat : Int)) l = rr ((needs (↑code.toNat : Int)).drop (i + 1)) (rdS s ((needs (↑code.toNat : Int)).getD i 0) q) (rdR ((needs (↑code.toNat : Int)).getD i 0) q); rw [hfo, drop_getD (by omega), rr, if_pos eo], by show (rdR ((needs (↑code.toNat : Int)).getD i 0) q).length ≤ _; have := rdR_len ((needs (↑code.toNat : Int)).getD i 0) q; omega, hb_g2, ⟨K4, k4, V4, v4, T4, t4, hb_g4, hK4, hV4, hT4⟩, hrr, hE⟩)
  · have hfin : rr (needs (↑code.toNat : Int)) (cmd0 (↑code.toNat : Int)) l = some (s, q) := by rw [hfo, List.drop_of_length_le (by omega)]; rfl
    refine q_exit (k_thenX (k_thenX (k_blockE (k_then (wc_seq (wc_seq (wc_regionL ?_)))))))
    refine vm rfl rfl ?_
    refine wl_val (ov_len Tryd.underlying32 rfl) rfl rfl rfl ?_
    refine wl_val (ov_gtr rfl rfl) rfl rfl rfl ?_
    refine wl_case_d (d := 43) rfl (fun h43 => ?_) (fun h43 => ?_)
    · have hnone : refRead code l = none := by unfold refRead; rw [hfin]; exact if_neg (by rintro ⟨h, _⟩; omega)
      refine vm rfl rfl ?_
      iterate 3 refine wl_gskip rfl rfl rfl rfl rfl rfl ?_
      refine wl_val (ov_pick_t rfl rfl) rfl rfl rfl ?_
      refine q_nil (k_then ?_)
      refine wc_cond_t rfl ?_
      refine wc_seq (wc_regionL ?_)
      refine wl_val (ov_build (cs := [(.int .i64 0), (.string (strB [])), (.slice none 0 0), (.slice none 0 0), (.slice none 0 0), (.int .u64 0), (.int .u64 0), (.string (strB [])), (.string (strB [])), (.string (strB []))]) ze36 pl36 rfl rfl) rfl rfl rfl ?_
      refine wl_step0 (or_storeBlk (vs := [(.int .i64 0), (.string (strB [])), (.slice none 0 0), (.slice none 0 0), (.slice none 0 0), (.int .u64 0), (.int .u64 0), (.string (strB [])), (.string (strB [])), (.string (strB []))]) sz36 rfl rfl (by simp [Value.oneCell']) hb_g2 rfl) rfl rfl ?_
      rintro _ w205 ⟨hN205, hg205⟩
      have hz_hg205 := hg205.size
      replace hb_g4 := hb_g4.gr hg205 (by intro e; cases e; omega)
      replace hrq := hrq.gr hg205 (fun _ e => by cases e; omega)
      replace hK1 := RdT.gr hK1 hg205 hb_g2 (by decide)
      replace hV1 := RdT.gr hV1 hg205 hb_g2 (by decide)
      replace hT1 := RdT.gr hT1 hg205 hb_g2 (by decide)
      replace hE := hE.gr hg205 (fun _ e => by cases e; omega)
      replace hb_g2 := hN205
      refine va rfl rfl ?_
      refine q_nil (k_then (q_ret (k_thenR ?_)))
      refine e_retL (rs := [.cell 2 36, .tmp 3]) (vs := [.agg #[(.int .i64 0), (.string (strB [])), (.slice none 0 0), (.slice none 0 0), (.slice none 0 0), (.int .u64 0), (.int .u64 0), (.string (strB [])), (.string (strB [])), (.string (strB []))], (.bool false)]) rfl ⟨⟨_, _, [(.int .i64 0), (.string (strB [])), (.slice none 0 0), (.slice none 0 0), (.slice none 0 0), (.int .u64 0), (.int .u64 0), (.string (strB [])), (.string (strB [])), (.string (strB []))], rfl, ag36_10, hb_g2, rfl⟩, rfl, trivial⟩ ?_
      rw [hnone]
      exact ⟨none, 0, none, 0, none, 0, rfl, ⟨RdT.nil _ _, RdT.nil _ _, RdT.nil _ _⟩, hE⟩
    · refine vm rfl rfl ?_
      refine wl_gval (ov_loadBlk (cs := [(.int .i64 s.op), (.string (strB s.key)), (.slice K1 s.keys.length k1), (.slice V1 s.value.length v1), (.slice T1 s.tags.length t1), (.int .u64 (↑s.life : Int)), (.int .u64 (↑s.ver : Int)), (.string (strB s.tag)), (.string (strB s.pre)), (.string (strB s.child))]) ag36_10 rfl hb_g4) rfl rfl rfl rfl rfl ?_
      refine wl_gstep (or_call0 cl14 rfl rfl (rvalid_any _ s _ _ K1 k1 V1 v1 T1 t1 (RdT.rd hK1) (RdT.rd hV1) (RdT.rd hT1))) rfl rfl rfl rfl rfl ?_
      rintro v w205 ⟨rfl, he46⟩
      replace hb_g2 := hb_g2.ext he46
      replace hb_g4 := hb_g4.ext he46
      replace hrq := hrq.ext he46
      replace hK1 := RdT.ext hK1 he46
      replace hV1 := RdT.ext hV1 he46
      replace hT1 := RdT.ext hT1 he46
      replace hE := hE.tr he46
      have hz_he46 := he46.size
      refine wl_gval (ov_not rfl) rfl rfl rfl rfl rfl ?_
      refine wl_val (ov_pick_f rfl rfl) rfl rfl rfl ?_
      refine q_nil (k_then ?_)
      refine wc_cond rfl (fun hc3 => ?_) (fun hc3 => ?_)
      · have hnone : refRead code l = none := by unfold refRead; rw [hfin]; exact if_neg (by rintro ⟨_, h⟩; rw [h] at hc3; cases hc3)
        refine wc_seq (wc_regionL ?_)
        refine wl_val (ov_build (cs := [(.int .i64 0), (.string (strB [])), (.slice none 0 0), (.slice none 0 0), (.slice none 0 0), (.int .u64 0), (.int .u64 0), (.string (strB [])), (.string (strB [])), (.string (strB []))]) ze36 pl36 rfl rfl) rfl rfl rfl ?_
        refine wl_step0 (or_storeBlk (vs := [(.int .i64 0), (.string (strB [])), (.slice none 0 0), (.slice none 0 0), (.slice none 0 0), (.int .u64 0), (.int .u64 0), (.string (strB [])), (.string (strB [])), (.string (strB []))]) sz36 rfl rfl (by simp [Value.oneCell']) hb_g2 rfl) rfl rfl ?_
        rintro _ w206 ⟨hN206, hg206⟩
        have hz_hg206 := hg206.size
        replace hb_g4 := hb_g4.gr hg206 (by intro e; cases e; omega)
        replace hrq := hrq.gr hg206 (fun _ e => by cases e; omega)
        replace hK1 := RdT.gr hK1 hg206 hb_g2 (by decide)
        replace hV1 := RdT.gr hV1 hg206 hb_g2 (by decide)
        replace hT1 := RdT.gr hT1 hg206 hb_g2 (by decide)
        replace hE := hE.gr hg206 (fun _ e => by cases e; omega)
        replace hb_g2 := hN206
        refine va rfl rfl ?_
        refine q_nil (k_then (q_ret (k_thenR ?_)))
        refine e_retL (rs := [.cell 2 36, .tmp 3]) (vs := [.agg #[(.int .i64 0), (.string (strB [])), (.slice none 0 0), (.slice none 0 0), (.slice none 0 0), (.int .u64 0), (.int .u64 0), (.string (strB [])), (.string (strB [])), (.string (strB []))], (.bool false)]) rfl ⟨⟨_, _, [(.int .i64 0), (.string (strB [])), (.slice none 0 0), (.slice none 0 0), (.slice none 0 0), (.int .u64 0), (.int .u64 0), (.string (strB [])), (.string (strB [])), (.string (strB []))], rfl, ag36_10, hb_g2, rfl⟩, rfl, trivial⟩ ?_
        rw [hnone]
        exact ⟨none, 0, none, 0, none, 0, rfl, ⟨RdT.nil _ _, RdT.nil _ _, RdT.nil _ _⟩, hE⟩
      · have hsome : refRead code l = some s := by unfold refRead; rw [hfin]; exact if_pos ⟨by omega, by simpa using hc3⟩
        refine q_skip (k_then (wc_seq (wc_regionL ?_)))
        refine wl_val (ov_loadBlk (cs := [(.int .i64 s.op), (.string (strB s.key)), (.slice K1 s.keys.length k1), (.slice V1 s.value.length v1), (.slice T1 s.tags.length t1), (.int .u64 (↑s.life : Int)), (.int .u64 (↑s.ver : Int)), (.string (strB s.tag)), (.string (strB s.pre)), (.string (strB s.child))]) ag36_10 rfl hb_g4) rfl rfl rfl ?_
        refine wl_step0 (or_storeBlk (vs := [(.int .i64 s.op), (.string (strB s.key)), (.slice K1 s.keys.length k1), (.slice V1 s.value.length v1), (.slice T1 s.tags.length t1), (.int .u64 (↑s.life : Int)), (.int .u64 (↑s.ver : Int)), (.string (strB s.tag)), (.string (strB s.pre)), (.string (strB s.child))]) sz36 rfl rfl (by simp [Value.oneCell']) hb_g2 rfl) rfl rfl ?_
        rintro _ w206 ⟨hN206, hg206⟩
        have hz_hg206 := hg206.size
        replace hb_g4 := hb_g4.gr hg206 (by intro e; cases e; omega)
        replace hrq := hrq.gr hg206 (fun _ e => by cases e; omega)
        replace hK1 := RdT.gr hK1 hg206 hb_g2 (by decide)
        replace hV1 := RdT.gr hV1 hg206 hb_g2 (by decide)
        replace hT1 := RdT.gr hT1 hg206 hb_g2 (by decide)
        replace hE := hE.gr hg206 (fun _ e => by cases e; omega)
        replace hb_g2 := hN206
        refine va rfl rfl ?_
        refine q_nil (k_then (q_ret ?_))
        refine e_retL (rs := [.cell 2 36, .tmp 3]) (vs := [.agg #[(.int .i64 s.op), (.string (strB s.key)), (.slice K1 s.keys.length k1), (.slice V1 s.value.length v1), (.slice T1 s.tags.length t1), (.int .u64 (↑s.life : Int)), (.int .u64 (↑s.ver : Int)), (.string (strB s.tag)), (.string (strB s.pre)), (.string (strB s.child))], (.bool true)]) rfl ⟨⟨_, _, [(.int .i64 s.op), (.string (strB s.key)), (.slice K1 s.keys.length k1), (.slice V1 s.value.length v1), (.slice T1 s.tags.length t1), (.int .u64 (↑s.life : Int)), (.int .u64 (↑s.ver : Int)), (.string (strB s.tag)), (.string (strB s.pre)), (.string (strB s.child))], rfl, ag36_10, hb_g2, rfl⟩, rfl, trivial⟩ ?_
        rw [hsome]
        exact ⟨K1, k1, V1, v1, T1, t1, rfl, ⟨hK1, hV1, hT1⟩, hE⟩

end Go.Proofs.YtohnkjjjejnkpaaDoor
