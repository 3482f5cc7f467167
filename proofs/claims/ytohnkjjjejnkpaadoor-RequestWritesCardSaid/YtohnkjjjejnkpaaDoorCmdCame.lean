/-
  A command that comes as an argument, opened, with the sizes that the form keeps. No condition.
-/
import Derived.Test.YtohnkjjjejnkpaaDoorRows
import Derived.Test.YtohnkjjjejnkpaaDoorLawL
import Derived.Test.YtohnkjjjejnkpaaDoorKc
namespace Go.Proofs.YtohnkjjjejnkpaaDoor
open Go.ChangeShapes Go.WideShapes Go.ChangeAt Go.RowKit
set_option maxRecDepth 4000

theorem cc_c : Tryd.prog.cellsOf 36 = 10 := by kernel_rfl
theorem cc_op : Tryd.prog.cellsOf 22 = 1 := by kernel_rfl
theorem cc_s : Tryd.prog.cellsOf 9 = 1 := by kernel_rfl
theorem cc_ss : Tryd.prog.cellsOf 27 = 1 := by kernel_rfl
theorem cc_b : Tryd.prog.cellsOf 32 = 1 := by kernel_rfl
theorem cc_t : Tryd.prog.cellsOf 34 = 1 := by kernel_rfl
theorem cc_u : Tryd.prog.cellsOf 33 = 1 := by kernel_rfl
theorem cc_8 : Tryd.prog.cellsOf 5 = 1 := by kernel_rfl
theorem cb_8 : Tryd.prog.bytesOf 5 = 1 := by kernel_rfl
theorem came_cmd {H : Type} {enc : TypeId × Value → H} {W : World} {v : Value} {d : DataW H} (h : Came enc Tryd.prog W 36 v d) :
    ∃ (cm : Cmd) (K : Option Addr) (ck : Nat) (V : Option Addr) (cv : Nat) (T : Option Addr) (ct : Nat), v = .agg (cmdc cm K ck V cv T ct).toArray ∧ RdS W 0 W.heap.size K ck cm.keys ∧ RdB W 0 W.heap.size V cv cm.value ∧ RdS W 0 W.heap.size T ct cm.tags ∧ CmdOK cm ∧ -9223372036854775808 ≤ cm.op ∧ cm.op ≤ 9223372036854775807 := by
  obtain ⟨cs, rfl, hc⟩ := camew_struct Tryd.underlying36 h
  obtain ⟨hl, hf⟩ := crw_struct Tryd.underlying36 hc
  rw [cc_c] at hl
  match cs, hl with
  | [c0, c1, c2, c3, c4, c5, c6, c7, c8, c9], _ =>
    have k0 : CRw enc Tryd.prog W 22 (([c0, c1, c2, c3, c4, c5, c6, c7, c8, c9].drop 0).take (Tryd.prog.cellsOf 22)) := hf 0 _ rfl
    have k1 : CRw enc Tryd.prog W 9 (([c0, c1, c2, c3, c4, c5, c6, c7, c8, c9].drop 1).take (Tryd.prog.cellsOf 9)) := hf 1 _ rfl
    have k2 : CRw enc Tryd.prog W 27 (([c0, c1, c2, c3, c4, c5, c6, c7, c8, c9].drop 2).take (Tryd.prog.cellsOf 27)) := hf 2 _ rfl
    have k3 : CRw enc Tryd.prog W 32 (([c0, c1, c2, c3, c4, c5, c6, c7, c8, c9].drop 3).take (Tryd.prog.cellsOf 32)) := hf 3 _ rfl
    have k4 : CRw enc Tryd.prog W 27 (([c0, c1, c2, c3, c4, c5, c6, c7, c8, c9].drop 4).take (Tryd.prog.cellsOf 27)) := hf 4 _ rfl
    have k5 : CRw enc Tryd.prog W 34 (([c0, c1, c2, c3, c4, c5, c6, c7, c8, c9].drop 5).take (Tryd.prog.cellsOf 34)) := hf 5 _ rfl
    have k6 : CRw enc Tryd.prog W 33 (([c0, c1, c2, c3, c4, c5, c6, c7, c8, c9].drop 6).take (Tryd.prog.cellsOf 33)) := hf 6 _ rfl
    have k7 : CRw enc Tryd.prog W 9 (([c0, c1, c2, c3, c4, c5, c6, c7, c8, c9].drop 7).take (Tryd.prog.cellsOf 9)) := hf 7 _ rfl
    have k8 : CRw enc Tryd.prog W 9 (([c0, c1, c2, c3, c4, c5, c6, c7, c8, c9].drop 8).take (Tryd.prog.cellsOf 9)) := hf 8 _ rfl
    have k9 : CRw enc Tryd.prog W 9 (([c0, c1, c2, c3, c4, c5, c6, c7, c8, c9].drop 9).take (Tryd.prog.cellsOf 9)) := hf 9 _ rfl
    rw [cc_op] at k0
    rw [cc_s] at k1 k7 k8 k9
    rw [cc_ss] at k2 k4
    rw [cc_b] at k3
    rw [cc_t] at k5
    rw [cc_u] at k6
    obtain ⟨op, e0, hop1, hop2⟩ := cr_i64 Tryd.underlying22 k0.cr
    obtain ⟨key, e1, h1⟩ := crw_str Tryd.underlying9 k1
    obtain ⟨K, ck, keys, e2, hK, h2⟩ := crw_strs Tryd.underlying27 Tryd.underlying9 cc_s k2
    obtain ⟨V, cv, value, e3, hV, h3⟩ := crw_bytes Tryd.underlying32 Tryd.underlying5 cc_8 cb_8 k3
    obtain ⟨T, ct, tags, e4, hT, h4⟩ := crw_strs Tryd.underlying27 Tryd.underlying9 cc_s k4
    obtain ⟨life, e5, h5⟩ := cr_u64 Tryd.underlying34 k5.cr
    obtain ⟨ver, e6, h6⟩ := cr_u64 Tryd.underlying33 k6.cr
    obtain ⟨tag, e7, h7⟩ := crw_str Tryd.underlying9 k7
    obtain ⟨pre, e8, h8⟩ := crw_str Tryd.underlying9 k8
    obtain ⟨child, e9, h9⟩ := crw_str Tryd.underlying9 k9
    cases e0; cases e1; cases e2; cases e3; cases e4; cases e5; cases e6; cases e7; cases e8; cases e9
    exact ⟨⟨op, key, keys, value, tags, life, ver, tag, pre, child⟩, K, ck, V, cv, T, ct, rfl, hK, hV, hT, ⟨h1, h3, h7, h8, h9, h4, h2, h5, h6⟩, hop1, hop2⟩

end Go.Proofs.YtohnkjjjejnkpaaDoor
