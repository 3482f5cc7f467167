/-
  Long commands, plainly.
-/
import Derived.Test.YtohnkjjjejnkpaaDoorKc
namespace Go.Proofs.YtohnkjjjejnkpaaDoor
open Go.RowKit
set_option linter.unusedVariables false
set_option maxRecDepth 4000


def cA (nv np : Nat) : Cmd := ⟨2, [107], [], List.replicate nv 0, List.replicate np (List.replicate 64 0), 1, 0, [], [], []⟩
def cM (np : Nat) : Cmd := ⟨5, [], List.replicate np (List.replicate 250 0), [], [], 0, 0, [], [], []⟩
theorem rep_flat (k : Nat) (s : List UInt8) : (List.replicate (k + 1) s).flatMap strc = (List.replicate k s).flatMap strc ++ [.string (strB s)] := by
  rw [List.replicate_succ', List.flatMap_append]; rfl
theorem rep_slen (k m : Nat) : slen (List.replicate k (List.replicate m (0 : UInt8))) = k * m := by
  unfold slen; rw [List.map_replicate, List.sum_replicate_nat, List.length_replicate]
/-- What the law asks of a command of its own. -/
structure CPr (c : Cmd) : Prop where
  sz : csz c ≤ 17592186044416
  life : c.life < 18446744073709551616
  ver : c.ver < 18446744073709551616
  op1 : 1 ≤ c.op
  op2 : c.op ≤ 15
  none : rvalid c = false → rdC (codeOf c) (outC c) = (cmd0 0, 6)
theorem rd_none {c : Cmd} (h1 : 1 ≤ c.op) (h2 : c.op ≤ 15) (h : rr (needs c.op) (cmd0 c.op) (outC c) = none) : rdC (codeOf c) (outC c) = (cmd0 0, 6) := by
  rw [rdC_ref]
  have : refRead (codeOf c) (outC c) = Option.none := by unfold refRead; rw [codeOf_nat h1 h2, h]
  rw [this]
theorem tx_long {s r : List UInt8} (h : 65536 < s.length) (h2 : s.length < 18446744073709551616) : txO (pb s ++ r) = false := by
  have e : pb s ++ r = enc s.length ++ (s ++ r) := by unfold pb; rw [List.append_assoc]
  have hv := vget_enc h2 (s ++ r)
  unfold txO
  rw [e, vpart_long (by omega) (by rw [hv]; simp) (by rw [hv]; show (65536 : Int) < (s.length : Int); omega)]
  rfl
theorem ts_long {xs : List (List UInt8)} {r : List UInt8} (h : 16 < xs.length) (h2 : xs.length < 18446744073709551616) : tsO (wl xs ++ r) = false := by
  have e : wl xs ++ r = enc xs.length ++ (xs.flatMap pb ++ r) := by unfold wl; rw [List.append_assoc]
  obtain ⟨n1, _, _⟩ := num_enc (n := xs.length) (xs.flatMap pb ++ r) h2
  unfold tsO
  rw [e, n1, decide_eq_false (by omega), Bool.and_false, Bool.false_and]
theorem tx_short {s r : List UInt8} (h : s.length ≤ 65536) : txO (pb s ++ r) = true ∧ txR (pb s ++ r) = r := by
  obtain ⟨h1, h2, h3⟩ := part_enc r h
  exact ⟨by unfold txO; rw [h3]; rfl, by unfold txR txO; rw [h3, h2]; rfl⟩
theorem all_rep (al : List UInt8 → Bool) (k : Nat) {s : List UInt8} (h : al s = true) : (List.replicate k s).all al = true := by
  rw [List.all_eq_true]; intro x hx; rw [(List.mem_replicate.1 hx).2]; exact h
theorem cA_pr {nv np : Nat} (h1 : nv ≤ 65538) (h2 : np ≤ 18) : CPr (cA nv np) where
  sz := by
    have h3 := wl_le (List.replicate np (List.replicate 64 (0 : UInt8)))
    rw [rep_slen, List.length_replicate] at h3
    have h4 := enc_len 0
    show [107].length + (List.replicate nv (0 : UInt8)).length + (wl (List.replicate np (List.replicate 64 0))).length + (wl []).length + 0 + 0 + 0 ≤ _
    rw [wl_len []]
    simp only [List.length_replicate, List.length_cons, List.length_nil, List.flatMap_nil]
    omega
  life := by show (1 : Nat) < _; decide
  ver := by show (0 : Nat) < _; decide
  op1 := by show (1 : Int) ≤ 2; decide
  op2 := by show (2 : Int) ≤ 15; decide
  none := by
    intro hv
    refine rd_none (c := cA nv np) (by show (1 : Int) ≤ 2; decide) (by show (2 : Int) ≤ 15; decide) ?_
    have ho : outC (cA nv np) = pb [107] ++ (pb (List.replicate nv 0) ++ (wl (List.replicate np (List.replicate 64 0)) ++ enc 1)) := by
      show ([107, 118, 116, 108] : List UInt8).flatMap (bC (cA nv np)) = _
      simp only [List.flatMap_cons, List.flatMap_nil, List.append_nil, bC_k, bC_v, bC_t, bC_l]
      rfl
    show rr [107, 118, 116, 108] (cmd0 2) (outC (cA nv np)) = Option.none
    rw [ho]
    obtain ⟨k1, k2⟩ := tx_short (s := [107]) (r := pb (List.replicate nv 0) ++ (wl (List.replicate np (List.replicate 64 0)) ++ enc 1)) (by simp)
    have q1 : rdO 107 (pb [107] ++ (pb (List.replicate nv 0) ++ (wl (List.replicate np (List.replicate 64 0)) ++ enc 1))) = true := k1
    have q2 : rdR 107 (pb [107] ++ (pb (List.replicate nv 0) ++ (wl (List.replicate np (List.replicate 64 0)) ++ enc 1))) = pb (List.replicate nv 0) ++ (wl (List.replicate np (List.replicate 64 0)) ++ enc 1) := k2
    rw [rr, if_pos q1, q2]
    by_cases hl : 65536 < nv
    · have q3 : rdO 118 (pb (List.replicate nv 0) ++ (wl (List.replicate np (List.replicate 64 0)) ++ enc 1)) = false := tx_long (by rw [List.length_replicate]; exact hl) (by rw [List.length_replicate]; omega)
      rw [rr, if_neg (by rw [q3]; decide)]
    · obtain ⟨k3, k4⟩ := tx_short (s := List.replicate nv 0) (r := wl (List.replicate np (List.replicate 64 0)) ++ enc 1) (by rw [List.length_replicate]; omega)
      have q3 : rdO 118 (pb (List.replicate nv 0) ++ (wl (List.replicate np (List.replicate 64 0)) ++ enc 1)) = true := k3
      have q4 : rdR 118 (pb (List.replicate nv 0) ++ (wl (List.replicate np (List.replicate 64 0)) ++ enc 1)) = wl (List.replicate np (List.replicate 64 0)) ++ enc 1 := k4
      rw [rr, if_pos q3, q4]
      by_cases hn : 16 < np
      · have q5 : rdO 116 (wl (List.replicate np (List.replicate 64 0)) ++ enc 1) = false := ts_long (by rw [List.length_replicate]; exact hn) (by rw [List.length_replicate]; omega)
        rw [rr, if_neg (by rw [q5]; decide)]
      · exfalso
        have : rvalid (cA nv np) = true := by
          refine rvalid_iff.2 ⟨⟨by show (1 : Int) ≤ 2; decide, by show (2 : Int) ≤ 15; decide⟩, rfl, ?_⟩
          show ([107, 118, 116, 108] : List UInt8).all (alC (cA nv np)) = true
          simp only [List.all_cons, List.all_nil, alC_k, alC_v, alC_t, alC_l]
          have a1 : kv (cA nv np).key = true := rfl
          have a2 : vv (cA nv np).value = true := by show vv (List.replicate nv 0) = true; unfold vv; rw [List.length_replicate]; exact decide_eq_true (by omega)
          have a3 : (cA nv np).tags.all tv = true := all_rep tv np (by decide)
          have a4 : decide ((cA nv np).tags.length ≤ 16) = true := by show decide ((List.replicate np (List.replicate 64 (0 : UInt8))).length ≤ 16) = true; rw [List.length_replicate]; exact decide_eq_true (by omega)
          have a5 : decide ((cA nv np).life ≠ 0) = true := rfl
          rw [a1, a2, a3, a4, a5]; rfl
        rw [this] at hv; cases hv
theorem cM_pr {np : Nat} (h1 : 14 ≤ np) (h2 : np ≤ 18) : CPr (cM np) where
  sz := by
    have h3 := wl_le (List.replicate np (List.replicate 250 (0 : UInt8)))
    rw [rep_slen, List.length_replicate] at h3
    have h4 := enc_len 0
    show 0 + 0 + (wl []).length + (wl (List.replicate np (List.replicate 250 0))).length + 0 + 0 + 0 ≤ _
    rw [wl_len []]
    simp only [List.length_nil, List.flatMap_nil]
    omega
  life := by show (0 : Nat) < _; decide
  ver := by show (0 : Nat) < _; decide
  op1 := by show (1 : Int) ≤ 5; decide
  op2 := by show (5 : Int) ≤ 15; decide
  none := by
    intro hv
    refine rd_none (c := cM np) (by show (1 : Int) ≤ 5; decide) (by show (5 : Int) ≤ 15; decide) ?_
    have ho : outC (cM np) = wl (List.replicate np (List.replicate 250 0)) ++ [] := by
      show ([109] : List UInt8).flatMap (bC (cM np)) = _
      simp only [List.flatMap_cons, List.flatMap_nil, bC_m]
      rfl
    show rr [109] (cmd0 5) (outC (cM np)) = Option.none
    rw [ho]
    by_cases hn : 16 < np
    · have q5 : rdO 109 (wl (List.replicate np (List.replicate 250 0)) ++ []) = false := ts_long (by rw [List.length_replicate]; exact hn) (by rw [List.length_replicate]; omega)
      rw [rr, if_neg (by rw [q5]; decide)]
    · exfalso
      have : rvalid (cM np) = true := by
        refine rvalid_iff.2 ⟨⟨by show (1 : Int) ≤ 5; decide, by show (5 : Int) ≤ 15; decide⟩, rfl, ?_⟩
        show ([109] : List UInt8).all (alC (cM np)) = true
        simp only [List.all_cons, List.all_nil, alC_m]
        have a3 : (cM np).keys.all kv = true := all_rep kv np (by decide)
        have a4 : decide (1 ≤ (cM np).keys.length ∧ (cM np).keys.length ≤ 16) = true := by show decide (1 ≤ (List.replicate np (List.replicate 250 (0 : UInt8))).length ∧ (List.replicate np (List.replicate 250 (0 : UInt8))).length ≤ 16) = true; rw [List.length_replicate]; exact decide_eq_true (by omega)
        rw [a3, a4]; rfl
      rw [this] at hv; cases hv
/-- A command with the places of its parts. -/
abbrev XT := Cmd × Option Addr × Nat × Option Addr × Nat × Option Addr × Nat
def xtc (x : XT) : List Value := cmdc x.1 x.2.1 x.2.2.1 x.2.2.2.1 x.2.2.2.2.1 x.2.2.2.2.2.1 x.2.2.2.2.2.2
def HQ (w : World) (B : Nat) (XS : List XT) : Prop := ∀ x ∈ XS, RdS w 0 B x.2.1 x.2.2.1 x.1.keys ∧ RdB w 0 B x.2.2.2.1 x.2.2.2.2.1 x.1.value ∧ RdS w 0 B x.2.2.2.2.2.1 x.2.2.2.2.2.2 x.1.tags
theorem HQ.gr {w w' : World} {B : Nat} {XS : List XT} (h : HQ w B XS) {row : Option Nat} (hg : Gr w w' row) (hr : ∀ g, row = some g → B ≤ g) : HQ w' B XS := fun x hx =>
  ⟨(h x hx).1.gr hg fun g e => .inr (hr g e), (h x hx).2.1.gr hg fun g e => .inr (hr g e), (h x hx).2.2.gr hg fun g e => .inr (hr g e)⟩
theorem HQ.ext {w w' : World} {B : Nat} {XS : List XT} (h : HQ w B XS) (he : Ext w w') : HQ w' B XS := h.gr he fun g e => by cases e
theorem wvalid_t (w : World) (cm : Cmd) (lo hi : Nat) (K : Option Addr) (ck : Nat) (V : Option Addr) (cv : Nat) (T : Option Addr) (ct : Nat) (hK : RdS w lo hi K ck cm.keys) (hV : RdB w lo hi V cv cm.value) (hT : RdS w lo hi T ct cm.tags) (hlf : cm.life < 18446744073709551616) (hvr : cm.ver < 18446744073709551616) (hsz : csz cm ≤ 17592186044416) (hv : rvalid cm = true) : Fn Tryd.prog 25 #[.agg (cmdc cm K ck V cv T ct).toArray] w (fun v w' => v = .bool true ∧ Ext w w') := by
  have := wvalid_ref w cm lo hi K ck V cv T ct hK hV hT hlf hvr hsz
  rwa [hv] at this

end Go.Proofs.YtohnkjjjejnkpaaDoor
