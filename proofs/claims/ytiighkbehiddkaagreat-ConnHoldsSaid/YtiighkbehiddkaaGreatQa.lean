/-
 Commands, plainly.
-/
import Derived.Test.YtiighkbehiddkaaGreatRr
import Derived.Test.YtiighkbehiddkaaGreatFr
import Derived.Test.YtiighkbehiddkaaGreatReq
import Derived.Test.YtiighkbehiddkaaGreatItems
namespace Go.Proofs.YtiighkbehiddkaaGreat
open Go.RowKit
set_option linter.unusedVariables false
set_option maxRecDepth 4000
theorem oc36 : oneCellTy Tryz.prog 36 = true := by kernel_rfl
theorem oc9 : oneCellTy Tryz.prog 9 = true := by kernel_rfl
/-- A command. -/
structure Cmd where
 op : Int
 key : List UInt8
 keys : List (List UInt8)
 value : List UInt8
 tags : List (List UInt8)
 life : Nat
 ver : Nat
 tag : List UInt8
 pre : List UInt8
 child : List UInt8
theorem Cmd.ext_iff' {a b : Cmd} : a = b ↔ a.op = b.op ∧ a.key = b.key ∧ a.keys = b.keys ∧ a.value = b.value ∧ a.tags = b.tags ∧ a.life = b.life ∧ a.ver = b.ver ∧ a.tag = b.tag ∧ a.pre = b.pre ∧ a.child = b.child := by
 constructor
 ·rintro rfl; simp
 ·cases a; cases b; simp only [Cmd.mk.injEq]; exact id
instance (a b : Cmd) : Decidable (a = b) := decidable_of_iff _ Cmd.ext_iff'.symm
/-- Its cells. -/
def cmdc (c : Cmd) (K : Option Addr) (ck : Nat) (V : Option Addr) (cv : Nat) (T : Option Addr) (ct : Nat) : List Value :=
 [.int .i64 c.op, .string (strB c.key), .slice K c.keys.length ck, .slice V c.value.length cv, .slice T c.tags.length ct, .int .u64 (c.life : Int), .int .u64 (c.ver : Int), .string (strB c.tag), .string (strB c.pre), .string (strB c.child)]
def cmd0 (op : Int) : Cmd := ⟨op, [], [], [], [], 0, 0, [], [], []⟩
/-- Strings, their cells. -/
def strc (s : List UInt8) : List Value := [.string (strB s)]
abbrev RdS (w : World) (lo hi : Nat) (A : Option Addr) (c : Nat) (xs : List (List UInt8)) : Prop := RdR w lo hi 1 strc A c xs
def kv (s : List UInt8) : Bool := decide (1 ≤ s.length ∧ s.length ≤ 250)
def tv (s : List UInt8) : Bool := decide (1 ≤ s.length ∧ s.length ≤ 64)
def pv (s : List UInt8) : Bool := decide (s.length ≤ 250)
def vv (s : List UInt8) : Bool := decide (s.length ≤ 65536)
/-- The parts that a command needs. -/
def needs (op : Int) : List UInt8 :=
 if op = 1 ∨ op = 2 then [107, 118, 116, 108] else if op = 3 then [107, 118, 116, 108, 110] else if op = 4 ∨ op = 7 ∨ op = 13 then [107] else if op = 5 then [109] else if op = 6 then [107, 108]
 else if op = 8 ∨ op = 9 then [103] else if op = 10 then [112] else if op = 11 ∨ op = 12 then [107, 99] else []
def pb (s : List UInt8) : List UInt8 := enc s.length ++ s
def wl (l : List (List UInt8)) : List UInt8 := enc l.length ++ l.flatMap pb
theorem kv_any (w : World) (s : List UInt8) :
  Fn Tryz.prog 104 #[(.string (strB s))] w (fun v w' => v = .bool (kv s) ∧ w' = w)  := by
 refine fn_enter (args := [(.string (strB s))]) Tryz.func104 rfl rfl rfl ?_
 show WC _ _ _ _ [(0, (.string (strB s)))] _
 refine wc_seq (wc_regionL ?_)
 refine va rfl rfl ?_
 refine q_nil (k_then (wc_seq (wc_regionL ?_)))
 refine vm rfl rfl ?_
 refine wl_val (ov_slen Tryz.underlying9 rfl) rfl rfl rfl ?_
 refine wl_val (ov_gtr rfl rfl) rfl rfl rfl ?_
 refine wl_case_d (d := 5) rfl (fun h5 => ?_) (fun h5 => ?_)
 ·refine vm rfl rfl ?_
  refine wl_gval (ov_move rfl) rfl rfl rfl rfl rfl ?_
  refine wl_gval (ov_slen Tryz.underlying9 rfl) rfl rfl rfl rfl rfl ?_
  refine wl_gval (ov_leq rfl rfl) rfl rfl rfl rfl rfl ?_
  refine wl_val (ov_pick_t rfl rfl) rfl rfl rfl ?_
  refine va rfl rfl ?_
  refine q_nil (k_then (q_ret ?_))
  refine e_ret rfl rfl ?_
  refine ⟨?_, rfl⟩
  unfold kv
  first | (rw [decide_eq_false]; intro h; omega) | (congr 1; rw [decide_eq_decide]; omega)
 ·refine vm rfl rfl ?_
  iterate 3 refine wl_gskip rfl rfl rfl rfl rfl rfl ?_
  refine wl_val (ov_pick_f rfl rfl) rfl rfl rfl ?_
  refine va rfl rfl ?_
  refine q_nil (k_then (q_ret ?_))
  refine e_ret rfl rfl ?_
  refine ⟨?_, rfl⟩
  unfold kv
  first | (rw [decide_eq_false]; intro h; omega) | (congr 1; rw [decide_eq_decide]; omega)
theorem tv_any (w : World) (s : List UInt8) :
  Fn Tryz.prog 107 #[(.string (strB s))] w (fun v w' => v = .bool (tv s) ∧ w' = w)  := by
 refine fn_enter (args := [(.string (strB s))]) Tryz.func107 rfl rfl rfl ?_
 show WC _ _ _ _ [(0, (.string (strB s)))] _
 refine wc_seq (wc_regionL ?_)
 refine va rfl rfl ?_
 refine q_nil (k_then (wc_seq (wc_regionL ?_)))
 refine vm rfl rfl ?_
 refine wl_val (ov_slen Tryz.underlying9 rfl) rfl rfl rfl ?_
 refine wl_val (ov_gtr rfl rfl) rfl rfl rfl ?_
 refine wl_case_d (d := 5) rfl (fun h5 => ?_) (fun h5 => ?_)
 ·refine vm rfl rfl ?_
  refine wl_gval (ov_move rfl) rfl rfl rfl rfl rfl ?_
  refine wl_gval (ov_slen Tryz.underlying9 rfl) rfl rfl rfl rfl rfl ?_
  refine wl_gval (ov_leq rfl rfl) rfl rfl rfl rfl rfl ?_
  refine wl_val (ov_pick_t rfl rfl) rfl rfl rfl ?_
  refine va rfl rfl ?_
  refine q_nil (k_then (q_ret ?_))
  refine e_ret rfl rfl ?_
  refine ⟨?_, rfl⟩
  unfold tv
  first | (rw [decide_eq_false]; intro h; omega) | (congr 1; rw [decide_eq_decide]; omega)
 ·refine vm rfl rfl ?_
  iterate 3 refine wl_gskip rfl rfl rfl rfl rfl rfl ?_
  refine wl_val (ov_pick_f rfl rfl) rfl rfl rfl ?_
  refine va rfl rfl ?_
  refine q_nil (k_then (q_ret ?_))
  refine e_ret rfl rfl ?_
  refine ⟨?_, rfl⟩
  unfold tv
  first | (rw [decide_eq_false]; intro h; omega) | (congr 1; rw [decide_eq_decide]; omega)
theorem pv_any (w : World) (s : List UInt8) :
  Fn Tryz.prog 110 #[(.string (strB s))] w (fun v w' => v = .bool (pv s) ∧ w' = w)  := by
 refine fn_enter (args := [(.string (strB s))]) Tryz.func110 rfl rfl rfl ?_
 show WC _ _ _ _ [(0, (.string (strB s)))] _
 refine wc_seq (wc_regionL ?_)
 refine va rfl rfl ?_
 refine q_nil (k_then (wc_seq (wc_regionL ?_)))
 refine vm rfl rfl ?_
 refine wl_val (ov_slen Tryz.underlying9 rfl) rfl rfl rfl ?_
 refine wl_val (ov_leq rfl rfl) rfl rfl rfl ?_
 refine va rfl rfl ?_
 refine q_nil (k_then (q_ret ?_))
 refine e_ret rfl rfl ?_
 refine ⟨?_, rfl⟩
 unfold pv
 congr 1; rw [decide_eq_decide]; omega
theorem vv_any (w : World) (s : List UInt8) :
  Fn Tryz.prog 128 #[(.string (strB s))] w (fun v w' => v = .bool (vv s) ∧ w' = w)  := by
 refine fn_enter (args := [(.string (strB s))]) Tryz.func128 rfl rfl rfl ?_
 show WC _ _ _ _ [(0, (.string (strB s)))] _
 refine wc_seq (wc_regionL ?_)
 refine va rfl rfl ?_
 refine q_nil (k_then (wc_seq (wc_regionL ?_)))
 refine vm rfl rfl ?_
 refine wl_val (ov_slen Tryz.underlying9 rfl) rfl rfl rfl ?_
 refine wl_val (ov_leq rfl rfl) rfl rfl rfl ?_
 refine va rfl rfl ?_
 refine q_nil (k_then (q_ret ?_))
 refine e_ret rfl rfl ?_
 refine ⟨?_, rfl⟩
 unfold vv
 congr 1; rw [decide_eq_decide]; omega
end Go.Proofs.YtiighkbehiddkaaGreat