/-
  Commands, plainly; the writing of numbers and parts.
-/
import Derived.Test.YtohnkjjjejnkpaaRr
import Derived.Test.YtohnkjjjejnkpaaFr
import Derived.Test.YtohnkjjjejnkpaaReq
import Derived.Test.YtohnkjjjejnkpaaItems
namespace Go.Proofs.Ytohnkjjjejnkpaa
open Go.RowKit
set_option linter.unusedVariables false
set_option maxRecDepth 4000
theorem cl69 : callable Try.prog 69 = true := by kernel_rfl
theorem fo92_1 : fieldOff Try.prog 92 1 = some 1 := by kernel_rfl
theorem fo92_2 : fieldOff Try.prog 92 2 = some 2 := by kernel_rfl
theorem fo92_3 : fieldOff Try.prog 92 3 = some 3 := by kernel_rfl
theorem mixed : Try.prog.follows .mixedOrders = true := by kernel_rfl
theorem oc25 : oneCellTy Try.prog 25 = true := by kernel_rfl
theorem oc83 : oneCellTy Try.prog 83 = true := by kernel_rfl
theorem oc9 : oneCellTy Try.prog 9 = true := by kernel_rfl
theorem sz4 : (Try.prog.info? 4).map (·.size) = some 1 := by kernel_rfl

/-- A command. -/
structure Cmd where
  op : Int
  key : List UInt8
  keys : List (List UInt8)
  value : List UInt8
  tags : List (List UInt8)
  life : Nat
  ver : Nat
  tag : List UInt8
  pre : List UInt8
  child : List UInt8
theorem Cmd.ext_iff' {a b : Cmd} : a = b ↔ a.op = b.op ∧ a.key = b.key ∧ a.keys = b.keys ∧ a.value = b.value ∧ a.tags = b.tags ∧ a.life = b.life ∧ a.ver = b.ver ∧ a.tag = b.tag ∧ a.pre = b.pre ∧ a.child = b.child := by
  constructor
  · rintro rfl; simp
  · cases a; cases b; simp only [Cmd.mk.injEq]; exact id
instance (a b : Cmd) : Decidable (a = b) := decidable_of_iff _ Cmd.ext_iff'.symm
/-- Its cells. -/
def cmdc (c : Cmd) (K : Option Addr) (ck : Nat) (V : Option Addr) (cv : Nat) (T : Option Addr) (ct : Nat) : List Value :=
  [.int .i64 c.op, .string (strB c.key), .slice K c.keys.length ck, .slice V c.value.length cv, .slice T c.tags.length ct, .int .u64 (c.life : Int), .int .u64 (c.ver : Int), .string (strB c.tag), .string (strB c.pre), .string (strB c.child)]
def cmd0 (op : Int) : Cmd := ⟨op, [], [], [], [], 0, 0, [], [], []⟩
/-- Strings, their cells. -/
def strc (s : List UInt8) : List Value := [.string (strB s)]
abbrev RdS (w : World) (lo hi : Nat) (A : Option Addr) (c : Nat) (xs : List (List UInt8)) : Prop := RdR w lo hi 1 strc A c xs
def kv (s : List UInt8) : Bool := decide (1 ≤ s.length ∧ s.length ≤ 250)
def tv (s : List UInt8) : Bool := decide (1 ≤ s.length ∧ s.length ≤ 64)
def pv (s : List UInt8) : Bool := decide (s.length ≤ 250)
def vv (s : List UInt8) : Bool := decide (s.length ≤ 65536)
/-- The parts that a command needs. -/
def needs (op : Int) : List UInt8 :=
  if op = 1 ∨ op = 2 then [107, 118, 116, 108] else if op = 3 then [107, 118, 116, 108, 110] else if op = 4 ∨ op = 7 ∨ op = 13 then [107] else if op = 5 then [109] else if op = 6 then [107, 108]
  else if op = 8 ∨ op = 9 then [103] else if op = 10 then [112] else if op = 11 ∨ op = 12 then [107, 99] else []
def pb (s : List UInt8) : List UInt8 := enc s.length ++ s
def wl (l : List (List UInt8)) : List UInt8 := enc l.length ++ l.flatMap pb
def wlst (a b : Nat) (al : List UInt8 → Bool) (st : List UInt8 × Bool) (l : List (List UInt8)) : List UInt8 × Bool :=
  if l.length < a ∨ b < l.length then (st.1 ++ enc l.length, true) else (st.1 ++ wl l, st.2 || !l.all al)
def wpart (al : List UInt8 → Bool) (st : List UInt8 × Bool) (s : List UInt8) : List UInt8 × Bool := (st.1 ++ pb s, st.2 || !al s)
/-- Writing a part. -/
def wstep (c : Cmd) (st : List UInt8 × Bool) (p : UInt8) : List UInt8 × Bool :=
  if p = 107 then wpart kv st c.key else if p = 118 then wpart vv st c.value else if p = 116 then wlst 0 16 tv st c.tags
  else if p = 108 then (st.1 ++ enc c.life, st.2 || decide (c.life = 0)) else if p = 110 then (st.1 ++ enc c.ver, st.2) else if p = 109 then wlst 1 16 kv st c.keys
  else if p = 103 then wpart tv st c.tag else if p = 112 then wpart pv st c.pre else wpart kv st c.child
def wfold (c : Cmd) : List UInt8 × Bool := (needs c.op).foldl (wstep c) ([], false)
theorem app_pb (o s : List UInt8) : o ++ enc s.length ++ s = o ++ pb s := List.append_assoc ..
theorem len_pb (s : List UInt8) : (pb s).length = (enc s.length).length + s.length := by simp [pb]

theorem kv_any (w : World) (s : List UInt8) :
    Fn Try.prog 54 #[(.string (strB s))] w (fun v w' => v = .bool (kv s) ∧ w' = w)  := by
  refine fn_enter (args := [(.string (strB s))]) Try.func54 rfl rfl rfl ?_
  show WC _ _ _ _ [(0, (.string (strB s)))] _
  refine wc_seq (wc_regionL ?_)
  refine va rfl rfl ?_
  refine q_nil (k_then (wc_seq (wc_regionL ?_)))
  refine vm rfl rfl ?_
  refine wl_val (ov_slen Try.underlying9 rfl) rfl rfl rfl ?_
  refine wl_val (ov_gtr rfl rfl) rfl rfl rfl ?_
  refine wl_case_d (d := 5) rfl (fun h5 => ?_) (fun h5 => ?_)
  · refine vm rfl rfl ?_
    refine wl_gval (ov_move rfl) rfl rfl rfl rfl rfl ?_
    refine wl_gval (ov_slen Try.underlying9 rfl) rfl rfl rfl rfl rfl ?_
    refine wl_gval (ov_leq rfl rfl) rfl rfl rfl rfl rfl ?_
    refine wl_val (ov_pick_t rfl rfl) rfl rfl rfl ?_
    refine va rfl rfl ?_
    refine q_nil (k_then (q_ret ?_))
    refine e_ret rfl rfl ?_
    refine ⟨?_, rfl⟩
    unfold kv
    first | (rw [decide_eq_false]; intro h; omega) | (congr 1; rw [decide_eq_decide]; omega)
  · refine vm rfl rfl ?_
    iterate 3 refine wl_gskip rfl rfl rfl rfl rfl rfl ?_
    refine wl_val (ov_pick_f rfl rfl) rfl rfl rfl ?_
    refine va rfl rfl ?_
    refine q_nil (k_then (q_ret ?_))
    refine e_ret rfl rfl ?_
    refine ⟨?_, rfl⟩
    unfold kv
    first | (rw [decide_eq_false]; intro h; omega) | (congr 1; rw [decide_eq_decide]; omega)

theorem tv_any (w : World) (s : List UInt8) :
    Fn Try.prog 57 #[(.string (strB s))] w (fun v w' => v = .bool (tv s) ∧ w' = w)  := by
  refine fn_enter (args := [(.string (strB s))]) Try.func57 rfl rfl rfl ?_
  show WC _ _ _ _ [(0, (.string (strB s)))] _
  refine wc_seq (wc_regionL ?_)
  refine va rfl rfl ?_
  refine q_nil (k_then (wc_seq (wc_regionL ?_)))
  refine vm rfl rfl ?_
  refine wl_val (ov_slen Try.underlying9 rfl) rfl rfl rfl ?_
  refine wl_val (ov_gtr rfl rfl) rfl rfl rfl ?_
  refine wl_case_d (d := 5) rfl (fun h5 => ?_) (fun h5 => ?_)
  · refine vm rfl rfl ?_
    refine wl_gval (ov_move rfl) rfl rfl rfl rfl rfl ?_
    refine wl_gval (ov_slen Try.underlying9 rfl) rfl rfl rfl rfl rfl ?_
    refine wl_gval (ov_leq rfl rfl) rfl rfl rfl rfl rfl ?_
    refine wl_val (ov_pick_t rfl rfl) rfl rfl rfl ?_
    refine va rfl rfl ?_
    refine q_nil (k_then (q_ret ?_))
    refine e_ret rfl rfl ?_
    refine ⟨?_, rfl⟩
    unfold tv
    first | (rw [decide_eq_false]; intro h; omega) | (congr 1; rw [decide_eq_decide]; omega)
  · refine vm rfl rfl ?_
    iterate 3 refine wl_gskip rfl rfl rfl rfl rfl rfl ?_
    refine wl_val (ov_pick_f rfl rfl) rfl rfl rfl ?_
    refine va rfl rfl ?_
    refine q_nil (k_then (q_ret ?_))
    refine e_ret rfl rfl ?_
    refine ⟨?_, rfl⟩
    unfold tv
    first | (rw [decide_eq_false]; intro h; omega) | (congr 1; rw [decide_eq_decide]; omega)

theorem pv_any (w : World) (s : List UInt8) :
    Fn Try.prog 60 #[(.string (strB s))] w (fun v w' => v = .bool (pv s) ∧ w' = w)  := by
  refine fn_enter (args := [(.string (strB s))]) Try.func60 rfl rfl rfl ?_
  show WC _ _ _ _ [(0, (.string (strB s)))] _
  refine wc_seq (wc_regionL ?_)
  refine va rfl rfl ?_
  refine q_nil (k_then (wc_seq (wc_regionL ?_)))
  refine vm rfl rfl ?_
  refine wl_val (ov_slen Try.underlying9 rfl) rfl rfl rfl ?_
  refine wl_val (ov_leq rfl rfl) rfl rfl rfl ?_
  refine va rfl rfl ?_
  refine q_nil (k_then (q_ret ?_))
  refine e_ret rfl rfl ?_
  refine ⟨?_, rfl⟩
  unfold pv
  congr 1; rw [decide_eq_decide]; omega

theorem vv_any (w : World) (s : List UInt8) :
    Fn Try.prog 78 #[(.string (strB s))] w (fun v w' => v = .bool (vv s) ∧ w' = w)  := by
  refine fn_enter (args := [(.string (strB s))]) Try.func78 rfl rfl rfl ?_
  show WC _ _ _ _ [(0, (.string (strB s)))] _
  refine wc_seq (wc_regionL ?_)
  refine va rfl rfl ?_
  refine q_nil (k_then (wc_seq (wc_regionL ?_)))
  refine vm rfl rfl ?_
  refine wl_val (ov_slen Try.underlying9 rfl) rfl rfl rfl ?_
  refine wl_val (ov_leq rfl rfl) rfl rfl rfl ?_
  refine va rfl rfl ?_
  refine q_nil (k_then (q_ret ?_))
  refine e_ret rfl rfl ?_
  refine ⟨?_, rfl⟩
  unfold vv
  congr 1; rw [decide_eq_decide]; omega

theorem numw (w : World) (gx gc : Nat) (A : Option Addr) (c : Nat) (out : List UInt8) (bad : Bool) (hb_gx : Blk w gx 92 [.pointer (some ⟨gc, 0, none⟩), .pointer none, .slice A (out).length c, .bool bad]) (ho : OwnB w (gx + 1) 5 A c out) (hol : out.length ≤ 35184372088832) (p : Addr) (n : Nat) (hp : w.cell? p = some (.int .u64 (n : Int))) (hn : n < 18446744073709551616) :
    Fn Try.prog 59 #[(.pointer (some ⟨gx, 0, none⟩)), (.pointer (some p))] w (fun v w' => v = .tuple #[] ∧ (∃ A' c', Blk w' gx 92 [.pointer (some ⟨gc, 0, none⟩), .pointer none, .slice A' (out ++ enc n).length c', .bool bad] ∧ OwnB w' (gx + 1) 5 A' c' (out ++ enc n)) ∧ Gr w w' (some gx))  := by
  have hG := (ext_refl w).row (some gx)
  have hgxl := hb_gx.lt
  have hq_ho := fun g e => Own.lt ho (g := g) e
  refine fn_enter (args := [(.pointer (some ⟨gx, 0, none⟩)), (.pointer (some p))]) Try.func59 rfl rfl rfl ?_
  show WC _ _ _ _ [(0, (.pointer (some ⟨gx, 0, none⟩))), (1, (.pointer (some p)))] _
  refine wc_seq (wc_seq (wc_regionL ?_))
  refine vm rfl rfl ?_
  refine vn rfl rfl ?_
  refine wl_val (ov_field0 (off := 1) fo92_1 rfl) rfl rfl rfl ?_
  refine wl_val (ov_loadAt oc83 rfl hb_gx rfl) rfl rfl rfl ?_
  refine wl_val (ov_nilptr Try.underlying83 rfl) rfl rfl rfl ?_
  refine q_nil (k_then ?_)
  refine wc_cond_t rfl ?_
  refine wc_seq ?_
  refine wc_draw mixed 9 [(11, eqv (.pointer (some ⟨gx, 0, none⟩))), (12, eqv (.pointer (some ⟨gx, 0, none⟩))), (13, eqv (.pointer (some ⟨gx, 0, none⟩))), (14, eqv (.pointer (some ⟨gx, 2, none⟩))), (15, eqv (.slice A out.length c)), (16, eqv (.pointer (some p))), (17, eqv (.pointer (some p))), (18, eqv (.int .u64 (↑n : Int))), (19, isOwnB w.heap.size 5 (out ++ enc (n)))] [[], [], [1], [2], [3], [], [5], [6], [4, 7]] _ [] [] (fun _ _ h => h) trivial (by kernel_rfl) rfl ⟨⟨stb_eqv _, fun _ he => by cases he⟩, ⟨stb_eqv _, fun _ he => by cases he⟩, ⟨stb_eqv _, fun _ he => by cases he⟩, ⟨stb_eqv _, fun _ he => by cases he⟩, ⟨stb_eqv _, fun _ he => by cases he⟩, ⟨stb_eqv _, fun _ he => by cases he⟩, ⟨stb_eqv _, fun _ he => by cases he⟩, ⟨stb_eqv _, fun _ he => by cases he⟩, ⟨stb_isOwnB _ _ _, fun _ he => by cases he⟩, trivial⟩ ⟨?_, ?_, ?_, ?_, ?_, ?_, ?_, ?_, ?_, trivial⟩ ?_
  · intro wd hxE
    replace hb_gx := hb_gx.ext hxE
    replace ho := Own.ext ho hxE
    replace hG := hG.gr hxE (fun _ e => by cases e)
    replace hp := ext_cell hxE hp
    have hz_hxE := hxE.size
    show OpG _ _ _ _ _ _
    exact og_plain rfl (ox_val (ov_move rfl))
  · intro wd hxE
    replace hb_gx := hb_gx.ext hxE
    replace ho := Own.ext ho hxE
    replace hG := hG.gr hxE (fun _ e => by cases e)
    replace hp := ext_cell hxE hp
    have hz_hxE := hxE.size
    show OpG _ _ _ _ _ _
    exact og_plain rfl (ox_val (ov_move rfl))
  · intro wd hxE
    replace hb_gx := hb_gx.ext hxE
    replace ho := Own.ext ho hxE
    replace hG := hG.gr hxE (fun _ e => by cases e)
    replace hp := ext_cell hxE hp
    have hz_hxE := hxE.size
    rintro _ rfl
    show OpG _ _ _ _ _ _
    exact og_plain rfl (ox_val (ov_nilCheck rfl))
  · intro wd hxE
    replace hb_gx := hb_gx.ext hxE
    replace ho := Own.ext ho hxE
    replace hG := hG.gr hxE (fun _ e => by cases e)
    replace hp := ext_cell hxE hp
    have hz_hxE := hxE.size
    rintro _ rfl
    show OpG _ _ _ _ _ _
    exact og_plain rfl (ox_val (ov_field0 (off := 2) fo92_2 rfl))
  · intro wd hxE
    replace hb_gx := hb_gx.ext hxE
    replace ho := Own.ext ho hxE
    replace hG := hG.gr hxE (fun _ e => by cases e)
    replace hp := ext_cell hxE hp
    have hz_hxE := hxE.size
    rintro _ rfl
    show OpG _ _ _ _ _ _
    exact og_plain rfl (ox_val (ov_loadAt oc32 rfl hb_gx rfl))
  · intro wd hxE
    replace hb_gx := hb_gx.ext hxE
    replace ho := Own.ext ho hxE
    replace hG := hG.gr hxE (fun _ e => by cases e)
    replace hp := ext_cell hxE hp
    have hz_hxE := hxE.size
    show OpG _ _ _ _ _ _
    exact og_plain rfl (ox_val (ov_move rfl))
  · intro wd hxE
    replace hb_gx := hb_gx.ext hxE
    replace ho := Own.ext ho hxE
    replace hG := hG.gr hxE (fun _ e => by cases e)
    replace hp := ext_cell hxE hp
    have hz_hxE := hxE.size
    rintro _ rfl
    show OpG _ _ _ _ _ _
    exact og_plain rfl (ox_val (ov_nilCheck rfl))
  · intro wd hxE
    replace hb_gx := hb_gx.ext hxE
    replace ho := Own.ext ho hxE
    replace hG := hG.gr hxE (fun _ e => by cases e)
    replace hp := ext_cell hxE hp
    have hz_hxE := hxE.size
    rintro _ rfl
    show OpG _ _ _ _ _ _
    exact og_plain rfl (ox_val (ov_load oc25 rfl hp))
  · intro wd hxE
    replace hb_gx := hb_gx.ext hxE
    replace ho := Own.ext ho hxE
    replace hG := hG.gr hxE (fun _ e => by cases e)
    replace hp := ext_cell hxE hp
    have hz_hxE := hxE.size
    rintro _ rfl
    rintro _ rfl
    show OpG _ _ _ _ _ _
    refine og_plain rfl (OpRun.mono (or_call0 cl29 rfl rfl (put_any _ _ _ _ _ out (n) (OwnB.rd ho) (by omega) (by omega))) ?_)
    rintro v w1 ⟨A19, c19, rfl, ho19, he19⟩
    replace hb_gx := hb_gx.ext he19
    replace ho := Own.ext ho he19
    replace hG := hG.gr he19 (fun _ e => by cases e)
    replace hp := ext_cell he19 hp
    have hz_he19 := he19.size
    have hq_ho19 := fun g e => Own.lt ho19 (g := g) e
    exact ⟨⟨A19, c19, rfl, Own.mono ho19 (by omega)⟩, he19⟩
  · intro wf1 hf1
    replace hb_gx := hb_gx.ext hf1
    replace ho := Own.ext ho hf1
    replace hG := hG.gr hf1 (fun _ e => by cases e)
    replace hp := ext_cell hf1 hp
    have hz_hf1 := hf1.size
    rintro _ rfl
    rintro _ rfl
    rintro _ rfl
    rintro _ rfl
    rintro _ rfl
    rintro _ rfl
    rintro _ rfl
    rintro _ rfl
    rintro _ ⟨A19, c19, rfl, ho19⟩
    have hq_ho19 := fun g e => Own.lt ho19 (g := g) e
    show WL _ _ _ [_, _, _] _ _ _
    refine vn rfl rfl ?_
    refine wl_val (ov_field0 (off := 2) fo92_2 rfl) rfl rfl rfl ?_
    refine wl_step0 (or_storeAt (cs' := [(.pointer (some ⟨gc, 0, none⟩)), (.pointer none), (.slice A19 (out ++ enc (n)).length c19), (.bool bad)]) sz32 rfl rfl rfl hb_gx rfl rfl) rfl rfl ?_
    rintro _ w1 ⟨hN1, hg1⟩
    have hz_hg1 := hg1.size
    replace ho := Own.gr ho hg1 (by first | exact .inl rfl | (right; intro e; first | (have := hq_ho _ e; omega) | (have := Own.lt ho e; omega) | exact own_blk_ne ho hb_gx (by decide) e))
    replace hG := hG.gr hg1 (fun _ e => by first | exact .inl e | (cases e; right; omega))
    skip
    replace ho19 := Own.gr ho19 hg1 (by first | exact .inl rfl | (right; intro e; first | (have := hq_ho19 _ e; omega) | (have := Own.lt ho19 e; omega) | exact own_blk_ne ho19 hb_gx (by decide) e))
    replace hb_gx := hN1
    refine q_nil (k_then (q_ret (k_thenR ?_)))
    refine e_ret0 rfl ?_
    exact ⟨rfl, ⟨A19, c19, hb_gx, Own.mono ho19 (by omega)⟩, hG⟩

theorem partw_t (w : World) (gx gc : Nat) (A : Option Addr) (c : Nat) (out : List UInt8) (hb_gx : Blk w gx 92 [.pointer (some ⟨gc, 0, none⟩), .pointer none, .slice A (out).length c, .bool true]) (ho : OwnB w (gx + 1) 5 A c out) (hol : out.length ≤ 35184372088832) (p : Addr) (s : List UInt8) (hp : w.cell? p = some (.string (strB s))) (hpx : p.block ≠ gx) (hls : s.length ≤ 35184372088832) (al : List UInt8 → Bool) (f : FuncId) (hcl : callable Try.prog f = true) (hal : ∀ w, Fn Try.prog f #[.string (strB s)] w (fun v w' => v = .bool (al s) ∧ w' = w)) :
    Fn Try.prog 53 #[(.pointer (some ⟨gx, 0, none⟩)), (.pointer (some p)), (.func (.func f) #[] #[])] w (fun v w' => v = .tuple #[] ∧ (∃ A' c', Blk w' gx 92 [.pointer (some ⟨gc, 0, none⟩), .pointer none, .slice A' (out ++ pb s).length c', .bool (true || !al s)] ∧ OwnB w' (gx + 1) 5 A' c' (out ++ pb s)) ∧ Gr w w' (some gx))  := by
  have hG := (ext_refl w).row (some gx)
  have hgxl := hb_gx.lt
  have hq_ho := fun g e => Own.lt ho (g := g) e
  refine fn_enter (args := [(.pointer (some ⟨gx, 0, none⟩)), (.pointer (some p)), (.func (.func f) #[] #[])]) Try.func53 rfl rfl rfl ?_
  show WC _ _ _ _ [(0, (.pointer (some ⟨gx, 0, none⟩))), (1, (.pointer (some p))), (2, (.func (.func f) #[] #[]))] _
  refine wc_seq (wc_seq (wc_regionL ?_))
  refine vm rfl rfl ?_
  refine vn rfl rfl ?_
  refine wl_val (ov_field0 (off := 1) fo92_1 rfl) rfl rfl rfl ?_
  refine wl_val (ov_loadAt oc83 rfl hb_gx rfl) rfl rfl rfl ?_
  refine wl_val (ov_nilptr Try.underlying83 rfl) rfl rfl rfl ?_
  refine q_nil (k_then ?_)
  refine wc_cond_t rfl ?_
  refine wc_draw mixed 10 [(13, eqv (.pointer (some ⟨gx, 0, none⟩))), (14, eqv (.pointer (some ⟨gx, 0, none⟩))), (15, eqv (.pointer (some ⟨gx, 0, none⟩))), (16, eqv (.pointer (some ⟨gx, 2, none⟩))), (17, eqv (.slice A out.length c)), (18, eqv (.pointer (some p))), (19, eqv (.pointer (some p))), (20, eqv (.string (strB s))), (21, isB 0 s), (22, isOwnB w.heap.size 5 (out ++ enc s.length ++ s))] [[], [], [1], [2], [3], [], [5], [6], [7], [4, 8]] _ [] [] (fun _ _ h => h) trivial (by kernel_rfl) rfl ⟨⟨stb_eqv _, fun _ he => by cases he⟩, ⟨stb_eqv _, fun _ he => by cases he⟩, ⟨stb_eqv _, fun _ he => by cases he⟩, ⟨stb_eqv _, fun _ he => by cases he⟩, ⟨stb_eqv _, fun _ he => by cases he⟩, ⟨stb_eqv _, fun _ he => by cases he⟩, ⟨stb_eqv _, fun _ he => by cases he⟩, ⟨stb_eqv _, fun _ he => by cases he⟩, ⟨stb_isB _ _, fun _ he => by cases he⟩, ⟨stb_isOwnB _ _ _, fun _ he => by cases he⟩, trivial⟩ ⟨?_, ?_, ?_, ?_, ?_, ?_, ?_, ?_, ?_, ?_, trivial⟩ ?_
  · intro wd hxE
    replace hb_gx := hb_gx.ext hxE
    replace ho := Own.ext ho hxE
    replace hG := hG.gr hxE (fun _ e => by cases e)
    replace hp := ext_cell hxE hp
    have hz_hxE := hxE.size
    show OpG _ _ _ _ _ _
    exact og_plain rfl (ox_val (ov_move rfl))
  · intro wd hxE
    replace hb_gx := hb_gx.ext hxE
    replace ho := Own.ext ho hxE
    replace hG := hG.gr hxE (fun _ e => by cases e)
    replace hp := ext_cell hxE hp
    have hz_hxE := hxE.size
    show OpG _ _ _ _ _ _
    exact og_plain rfl (ox_val (ov_move rfl))
  · intro wd hxE
    replace hb_gx := hb_gx.ext hxE
    replace ho := Own.ext ho hxE
    replace hG := hG.gr hxE (fun _ e => by cases e)
    replace hp := ext_cell hxE hp
    have hz_hxE := hxE.size
    rintro _ rfl
    show OpG _ _ _ _ _ _
    exact og_plain rfl (ox_val (ov_nilCheck rfl))
  · intro wd hxE
    replace hb_gx := hb_gx.ext hxE
    replace ho := Own.ext ho hxE
    replace hG := hG.gr hxE (fun _ e => by cases e)
    replace hp := ext_cell hxE hp
    have hz_hxE := hxE.size
    rintro _ rfl
    show OpG _ _ _ _ _ _
    exact og_plain rfl (ox_val (ov_field0 (off := 2) fo92_2 rfl))
  · intro wd hxE
    replace hb_gx := hb_gx.ext hxE
    replace ho := Own.ext ho hxE
    replace hG := hG.gr hxE (fun _ e => by cases e)
    replace hp := ext_cell hxE hp
    have hz_hxE := hxE.size
    rintro _ rfl
    show OpG _ _ _ _ _ _
    exact og_plain rfl (ox_val (ov_loadAt oc32 rfl hb_gx rfl))
  · intro wd hxE
    replace hb_gx := hb_gx.ext hxE
    replace ho := Own.ext ho hxE
    replace hG := hG.gr hxE (fun _ e => by cases e)
    replace hp := ext_cell hxE hp
    have hz_hxE := hxE.size
    show OpG _ _ _ _ _ _
    exact og_plain rfl (ox_val (ov_move rfl))
  · intro wd hxE
    replace hb_gx := hb_gx.ext hxE
    replace ho := Own.ext ho hxE
    replace hG := hG.gr hxE (fun _ e => by cases e)
    replace hp := ext_cell hxE hp
    have hz_hxE := hxE.size
    rintro _ rfl
    show OpG _ _ _ _ _ _
    exact og_plain rfl (ox_val (ov_nilCheck rfl))
  · intro wd hxE
    replace hb_gx := hb_gx.ext hxE
    replace ho := Own.ext ho hxE
    replace hG := hG.gr hxE (fun _ e => by cases e)
    replace hp := ext_cell hxE hp
    have hz_hxE := hxE.size
    rintro _ rfl
    show OpG _ _ _ _ _ _
    exact og_plain rfl (ox_val (ov_load oc9 rfl hp))
  · intro wd hxE
    replace hb_gx := hb_gx.ext hxE
    replace ho := Own.ext ho hxE
    replace hG := hG.gr hxE (fun _ e => by cases e)
    replace hp := ext_cell hxE hp
    have hz_hxE := hxE.size
    rintro _ rfl
    show OpG _ _ _ _ _ _
    refine og_plain rfl (OpRun.mono (or_strBytes bt32 Try.underlying9 rfl (by simp only [maxLen]; omega)) ?_)
    rintro v w1 ⟨A21, c21, rfl, hr21, he21⟩
    replace hb_gx := hb_gx.ext he21
    replace ho := Own.ext ho he21
    replace hG := hG.gr he21 (fun _ e => by cases e)
    replace hp := ext_cell he21 hp
    have hz_he21 := he21.size
    exact ⟨⟨A21, c21, rfl, (Rd.top hr21).mono (Nat.zero_le _) (Nat.le_refl _)⟩, he21⟩
  · intro wd hxE
    replace hb_gx := hb_gx.ext hxE
    replace ho := Own.ext ho hxE
    replace hG := hG.gr hxE (fun _ e => by cases e)
    replace hp := ext_cell hxE hp
    have hz_hxE := hxE.size
    rintro _ rfl
    rintro _ ⟨A21, c21, rfl, hr21⟩
    show OpG _ _ _ _ _ _
    refine og_plain rfl (OpRun.mono (or_call0 cl69 rfl rfl (putbytes_any _ _ _ _ _ _ _ out _ _ s (OwnB.rd ho) hr21 (by omega))) ?_)
    rintro v w1 ⟨A22, c22, rfl, ho22, he22⟩
    replace hb_gx := hb_gx.ext he22
    replace ho := Own.ext ho he22
    replace hG := hG.gr he22 (fun _ e => by cases e)
    replace hp := ext_cell he22 hp
    replace hr21 := hr21.ext he22
    have hz_he22 := he22.size
    have hq_ho22 := fun g e => Own.lt ho22 (g := g) e
    exact ⟨⟨A22, c22, rfl, Own.mono ho22 (by omega)⟩, he22⟩
  · intro wf1 hf1
    replace hb_gx := hb_gx.ext hf1
    replace ho := Own.ext ho hf1
    replace hG := hG.gr hf1 (fun _ e => by cases e)
    replace hp := ext_cell hf1 hp
    have hz_hf1 := hf1.size
    rintro _ rfl
    rintro _ rfl
    rintro _ rfl
    rintro _ rfl
    rintro _ rfl
    rintro _ rfl
    rintro _ rfl
    rintro _ rfl
    rintro _ ⟨A21, c21, rfl, hr21⟩
    rintro _ ⟨A22, c22, rfl, ho22⟩
    have hq_ho22 := fun g e => Own.lt ho22 (g := g) e
    show WL _ _ _ [_, _, _] _ _ _
    refine vn rfl rfl ?_
    refine wl_val (ov_field0 (off := 2) fo92_2 rfl) rfl rfl rfl ?_
    refine wl_step0 (or_storeAt (cs' := [(.pointer (some ⟨gc, 0, none⟩)), (.pointer none), (.slice A22 (out ++ enc s.length ++ s).length c22), (.bool true)]) sz32 rfl rfl rfl hb_gx rfl rfl) rfl rfl ?_
    rintro _ w1 ⟨hN1, hg1⟩
    have hz_hg1 := hg1.size
    replace ho := Own.gr ho hg1 (by first | exact .inl rfl | (right; intro e; first | (have := hq_ho _ e; omega) | (have := Own.lt ho e; omega) | exact own_blk_ne ho hb_gx (by decide) e))
    replace hG := hG.gr hg1 (fun _ e => by first | exact .inl e | (cases e; right; omega))
    replace hp := gr_cell hg1 hp (by first | exact hpx | omega)
    replace ho22 := Own.gr ho22 hg1 (by first | exact .inl rfl | (right; intro e; first | (have := hq_ho22 _ e; omega) | (have := Own.lt ho22 e; omega) | exact own_blk_ne ho22 hb_gx (by decide) e))
    replace hb_gx := hN1
    refine q_nil (k_then (wc_regionL ?_))
    iterate 2 refine vm rfl rfl ?_
    refine vn rfl rfl ?_
    refine wl_val (ov_field0 (off := 3) fo92_3 rfl) rfl rfl rfl ?_
    refine wl_val (ov_loadAt oc4 rfl hb_gx rfl) rfl rfl rfl ?_
    refine vm rfl rfl ?_
    iterate 6 refine wl_gskip rfl rfl rfl rfl rfl rfl ?_
    refine wl_val (ov_pick_t rfl rfl) rfl rfl rfl ?_
    refine vn rfl rfl ?_
    refine wl_val (ov_field0 (off := 3) fo92_3 rfl) rfl rfl rfl ?_
    refine wl_step0 (or_storeAt (cs' := [(.pointer (some ⟨gc, 0, none⟩)), (.pointer none), (.slice A22 (out ++ enc s.length ++ s).length c22), (.bool true)]) sz4 rfl rfl rfl hb_gx rfl rfl) rfl rfl ?_
    rintro _ w2 ⟨hN2, hg2⟩
    have hz_hg2 := hg2.size
    replace ho := Own.gr ho hg2 (by first | exact .inl rfl | (right; intro e; first | (have := hq_ho _ e; omega) | (have := Own.lt ho e; omega) | exact own_blk_ne ho hb_gx (by decide) e))
    replace hG := hG.gr hg2 (fun _ e => by first | exact .inl e | (cases e; right; omega))
    replace hp := gr_cell hg2 hp (by first | exact hpx | omega)
    replace ho22 := Own.gr ho22 hg2 (by first | exact .inl rfl | (right; intro e; first | (have := hq_ho22 _ e; omega) | (have := Own.lt ho22 e; omega) | exact own_blk_ne ho22 hb_gx (by decide) e))
    replace hb_gx := hN2
    refine q_nil ?_
    refine e_end0 rfl ?_
    rw [app_pb] at hb_gx ho22
    exact ⟨rfl, ⟨A22, c22, hb_gx, Own.mono ho22 (by omega)⟩, hG⟩

theorem partw_f (w : World) (gx gc : Nat) (A : Option Addr) (c : Nat) (out : List UInt8) (hb_gx : Blk w gx 92 [.pointer (some ⟨gc, 0, none⟩), .pointer none, .slice A (out).length c, .bool false]) (ho : OwnB w (gx + 1) 5 A c out) (hol : out.length ≤ 35184372088832) (p : Addr) (s : List UInt8) (hp : w.cell? p = some (.string (strB s))) (hpx : p.block ≠ gx) (hls : s.length ≤ 35184372088832) (al : List UInt8 → Bool) (f : FuncId) (hcl : callable Try.prog f = true) (hal : ∀ w, Fn Try.prog f #[.string (strB s)] w (fun v w' => v = .bool (al s) ∧ w' = w)) :
    Fn Try.prog 53 #[(.pointer (some ⟨gx, 0, none⟩)), (.pointer (some p)), (.func (.func f) #[] #[])] w (fun v w' => v = .tuple #[] ∧ (∃ A' c', Blk w' gx 92 [.pointer (some ⟨gc, 0, none⟩), .pointer none, .slice A' (out ++ pb s).length c', .bool (false || !al s)] ∧ OwnB w' (gx + 1) 5 A' c' (out ++ pb s)) ∧ Gr w w' (some gx))  := by
  have hG := (ext_refl w).row (some gx)
  have hgxl := hb_gx.lt
  have hq_ho := fun g e => Own.lt ho (g := g) e
  refine fn_enter (args := [(.pointer (some ⟨gx, 0, none⟩)), (.pointer (some p)), (.func (.func f) #[] #[])]) Try.func53 rfl rfl rfl ?_
  show WC _ _ _ _ [(0, (.pointer (some ⟨gx, 0, none⟩))), (1, (.pointer (some p))), (2, (.func (.func f) #[] #[]))] _
  refine wc_seq (wc_seq (wc_regionL ?_))
  refine vm rfl rfl ?_
  refine vn rfl rfl ?_
  refine wl_val (ov_field0 (off := 1) fo92_1 rfl) rfl rfl rfl ?_
  refine wl_val (ov_loadAt oc83 rfl hb_gx rfl) rfl rfl rfl ?_
  refine wl_val (ov_nilptr Try.underlying83 rfl) rfl rfl rfl ?_
  refine q_nil (k_then ?_)
  refine wc_cond_t rfl ?_
  refine wc_draw mixed 10 [(13, eqv (.pointer (some ⟨gx, 0, none⟩))), (14, eqv (.pointer (some ⟨gx, 0, none⟩))), (15, eqv (.pointer (some ⟨gx, 0, none⟩))), (16, eqv (.pointer (some ⟨gx, 2, none⟩))), (17, eqv (.slice A out.length c)), (18, eqv (.pointer (some p))), (19, eqv (.pointer (some p))), (20, eqv (.string (strB s))), (21, isB 0 s), (22, isOwnB w.heap.size 5 (out ++ enc s.length ++ s))] [[], [], [1], [2], [3], [], [5], [6], [7], [4, 8]] _ [] [] (fun _ _ h => h) trivial (by kernel_rfl) rfl ⟨⟨stb_eqv _, fun _ he => by cases he⟩, ⟨stb_eqv _, fun _ he => by cases he⟩, ⟨stb_eqv _, fun _ he => by cases he⟩, ⟨stb_eqv _, fun _ he => by cases he⟩, ⟨stb_eqv _, fun _ he => by cases he⟩, ⟨stb_eqv _, fun _ he => by cases he⟩, ⟨stb_eqv _, fun _ he => by cases he⟩, ⟨stb_eqv _, fun _ he => by cases he⟩, ⟨stb_isB _ _, fun _ he => by cases he⟩, ⟨stb_isOwnB _ _ _, fun _ he => by cases he⟩, trivial⟩ ⟨?_, ?_, ?_, ?_, ?_, ?_, ?_, ?_, ?_, ?_, trivial⟩ ?_
  · intro wd hxE
    replace hb_gx := hb_gx.ext hxE
    replace ho := Own.ext ho hxE
    replace hG := hG.gr hxE (fun _ e => by cases e)
    replace hp := ext_cell hxE hp
    have hz_hxE := hxE.size
    show OpG _ _ _ _ _ _
    exact og_plain rfl (ox_val (ov_move rfl))
  · intro wd hxE
    replace hb_gx := hb_gx.ext hxE
    replace ho := Own.ext ho hxE
    replace hG := hG.gr hxE (fun _ e => by cases e)
    replace hp := ext_cell hxE hp
    have hz_hxE := hxE.size
    show OpG _ _ _ _ _ _
    exact og_plain rfl (ox_val (ov_move rfl))
  · intro wd hxE
    replace hb_gx := hb_gx.ext hxE
    replace ho := Own.ext ho hxE
    replace hG := hG.gr hxE (fun _ e => by cases e)
    replace hp := ext_cell hxE hp
    have hz_hxE := hxE.size
    rintro _ rfl
    show OpG _ _ _ _ _ _
    exact og_plain rfl (ox_val (ov_nilCheck rfl))
  · intro wd hxE
    replace hb_gx := hb_gx.ext hxE
    replace ho := Own.ext ho hxE
    replace hG := hG.gr hxE (fun _ e => by cases e)
    replace hp := ext_cell hxE hp
    have hz_hxE := hxE.size
    rintro _ rfl
    show OpG _ _ _ _ _ _
    exact og_plain rfl (ox_val (ov_field0 (off := 2) fo92_2 rfl))
  · intro wd hxE
    replace hb_gx := hb_gx.ext hxE
    replace ho := Own.ext ho hxE
    replace hG := hG.gr hxE (fun _ e => by cases e)
    replace hp := ext_cell hxE hp
    have hz_hxE := hxE.size
    rintro _ rfl
    show OpG _ _ _ _ _ _
    exact og_plain rfl (ox_val (ov_loadAt oc32 rfl hb_gx rfl))
  · intro wd hxE
    replace hb_gx := hb_gx.ext hxE
    replace ho := Own.ext ho hxE
    replace hG := hG.gr hxE (fun _ e => by cases e)
    replace hp := ext_cell hxE hp
    have hz_hxE := hxE.size
    show OpG _ _ _ _ _ _
    exact og_plain rfl (ox_val (ov_move rfl))
  · intro wd hxE
    replace hb_gx := hb_gx.ext hxE
    replace ho := Own.ext ho hxE
    replace hG := hG.gr hxE (fun _ e => by cases e)
    replace hp := ext_cell hxE hp
    have hz_hxE := hxE.size
    rintro _ rfl
    show OpG _ _ _ _ _ _
    exact og_plain rfl (ox_val (ov_nilCheck rfl))
  · intro wd hxE
    replace hb_gx := hb_gx.ext hxE
    replace ho := Own.ext ho hxE
    replace hG := hG.gr hxE (fun _ e => by cases e)
    replace hp := ext_cell hxE hp
    have hz_hxE := hxE.size
    rintro _ rfl
    show OpG _ _ _ _ _ _
    exact og_plain rfl (ox_val (ov_load oc9 rfl hp))
  · intro wd hxE
    replace hb_gx := hb_gx.ext hxE
    replace ho := Own.ext ho hxE
    replace hG := hG.gr hxE (fun _ e => by cases e)
    replace hp := ext_cell hxE hp
    have hz_hxE := hxE.size
    rintro _ rfl
    show OpG _ _ _ _ _ _
    refine og_plain rfl (OpRun.mono (or_strBytes bt32 Try.underlying9 rfl (by simp only [maxLen]; omega)) ?_)
    rintro v w1 ⟨A21, c21, rfl, hr21, he21⟩
    replace hb_gx := hb_gx.ext he21
    replace ho := Own.ext ho he21
    replace hG := hG.gr he21 (fun _ e => by cases e)
    replace hp := ext_cell he21 hp
    have hz_he21 := he21.size
    exact ⟨⟨A21, c21, rfl, (Rd.top hr21).mono (Nat.zero_le _) (Nat.le_refl _)⟩, he21⟩
  · intro wd hxE
    replace hb_gx := hb_gx.ext hxE
    replace ho := Own.ext ho hxE
    replace hG := hG.gr hxE (fun _ e => by cases e)
    replace hp := ext_cell hxE hp
    have hz_hxE := hxE.size
    rintro _ rfl
    rintro _ ⟨A21, c21, rfl, hr21⟩
    show OpG _ _ _ _ _ _
    refine og_plain rfl (OpRun.mono (or_call0 cl69 rfl rfl (putbytes_any _ _ _ _ _ _ _ out _ _ s (OwnB.rd ho) hr21 (by omega))) ?_)
    rintro v w1 ⟨A22, c22, rfl, ho22, he22⟩
    replace hb_gx := hb_gx.ext he22
    replace ho := Own.ext ho he22
    replace hG := hG.gr he22 (fun _ e => by cases e)
    replace hp := ext_cell he22 hp
    replace hr21 := hr21.ext he22
    have hz_he22 := he22.size
    have hq_ho22 := fun g e => Own.lt ho22 (g := g) e
    exact ⟨⟨A22, c22, rfl, Own.mono ho22 (by omega)⟩, he22⟩
  · intro wf1 hf1
    replace hb_gx := hb_gx.ext hf1
    replace ho := Own.ext ho hf1
    replace hG := hG.gr hf1 (fun _ e => by cases e)
    replace hp := ext_cell hf1 hp
    have hz_hf1 := hf1.size
    rintro _ rfl
    rintro _ rfl
    rintro _ rfl
    rintro _ rfl
    rintro _ rfl
    rintro _ rfl
    rintro _ rfl
    rintro _ rfl
    rintro _ ⟨A21, c21, rfl, hr21⟩
    rintro _ ⟨A22, c22, rfl, ho22⟩
    have hq_ho22 := fun g e => Own.lt ho22 (g := g) e
    show WL _ _ _ [_, _, _] _ _ _
    refine vn rfl rfl ?_
    refine wl_val (ov_field0 (off := 2) fo92_2 rfl) rfl rfl rfl ?_
    refine wl_step0 (or_storeAt (cs' := [(.pointer (some ⟨gc, 0, none⟩)), (.pointer none), (.slice A22 (out ++ enc s.length ++ s).length c22), (.bool false)]) sz32 rfl rfl rfl hb_gx rfl rfl) rfl rfl ?_
    rintro _ w1 ⟨hN1, hg1⟩
    have hz_hg1 := hg1.size
    replace ho := Own.gr ho hg1 (by first | exact .inl rfl | (right; intro e; first | (have := hq_ho _ e; omega) | (have := Own.lt ho e; omega) | exact own_blk_ne ho hb_gx (by decide) e))
    replace hG := hG.gr hg1 (fun _ e => by first | exact .inl e | (cases e; right; omega))
    replace hp := gr_cell hg1 hp (by first | exact hpx | omega)
    replace ho22 := Own.gr ho22 hg1 (by first | exact .inl rfl | (right; intro e; first | (have := hq_ho22 _ e; omega) | (have := Own.lt ho22 e; omega) | exact own_blk_ne ho22 hb_gx (by decide) e))
    replace hb_gx := hN1
    refine q_nil (k_then (wc_regionL ?_))
    iterate 2 refine vm rfl rfl ?_
    refine vn rfl rfl ?_
    refine wl_val (ov_field0 (off := 3) fo92_3 rfl) rfl rfl rfl ?_
    refine wl_val (ov_loadAt oc4 rfl hb_gx rfl) rfl rfl rfl ?_
    refine vm rfl rfl ?_
    iterate 2 refine wl_gval (ov_move rfl) rfl rfl rfl rfl rfl ?_
    refine wl_gval (ov_nilCheck rfl) rfl rfl rfl rfl rfl ?_
    refine wl_gval (ov_load oc9 rfl hp) rfl rfl rfl rfl rfl ?_
    refine wl_gval (or_call0 hcl rfl rfl (hal _)) rfl rfl rfl rfl rfl ?_
    refine wl_gval (ov_not rfl) rfl rfl rfl rfl rfl ?_
    refine wl_val (ov_pick_f rfl rfl) rfl rfl rfl ?_
    refine vn rfl rfl ?_
    refine wl_val (ov_field0 (off := 3) fo92_3 rfl) rfl rfl rfl ?_
    refine wl_step0 (or_storeAt (cs' := [(.pointer (some ⟨gc, 0, none⟩)), (.pointer none), (.slice A22 (out ++ enc s.length ++ s).length c22), (.bool (!(al s)))]) sz4 rfl rfl rfl hb_gx rfl rfl) rfl rfl ?_
    rintro _ w2 ⟨hN2, hg2⟩
    have hz_hg2 := hg2.size
    replace ho := Own.gr ho hg2 (by first | exact .inl rfl | (right; intro e; first | (have := hq_ho _ e; omega) | (have := Own.lt ho e; omega) | exact own_blk_ne ho hb_gx (by decide) e))
    replace hG := hG.gr hg2 (fun _ e => by first | exact .inl e | (cases e; right; omega))
    replace hp := gr_cell hg2 hp (by first | exact hpx | omega)
    replace ho22 := Own.gr ho22 hg2 (by first | exact .inl rfl | (right; intro e; first | (have := hq_ho22 _ e; omega) | (have := Own.lt ho22 e; omega) | exact own_blk_ne ho22 hb_gx (by decide) e))
    replace hb_gx := hN2
    refine q_nil ?_
    refine e_end0 rfl ?_
    rw [app_pb] at hb_gx ho22
    exact ⟨rfl, ⟨A22, c22, hb_gx, Own.mono ho22 (by omega)⟩, hG⟩

theorem partw (w : World) (gx gc : Nat) (A : Option Addr) (c : Nat) (out : List UInt8) (bad : Bool) (hb_gx : Blk w gx 92 [.pointer (some ⟨gc, 0, none⟩), .pointer none, .slice A (out).length c, .bool bad]) (ho : OwnB w (gx + 1) 5 A c out) (hol : out.length ≤ 35184372088832) (p : Addr) (s : List UInt8) (hp : w.cell? p = some (.string (strB s))) (hpx : p.block ≠ gx) (hls : s.length ≤ 35184372088832) (al : List UInt8 → Bool) (f : FuncId) (hcl : callable Try.prog f = true) (hal : ∀ w, Fn Try.prog f #[.string (strB s)] w (fun v w' => v = .bool (al s) ∧ w' = w)) :
    Fn Try.prog 53 #[.pointer (some ⟨gx, 0, none⟩), .pointer (some p), .func (.func f) #[] #[]] w (fun v w' => v = .tuple #[] ∧ (∃ A' c', Blk w' gx 92 [.pointer (some ⟨gc, 0, none⟩), .pointer none, .slice A' (out ++ pb s).length c', .bool (bad || !al s)] ∧ OwnB w' (gx + 1) 5 A' c' (out ++ pb s)) ∧ Gr w w' (some gx)) := by
  cases bad with
  | true => exact partw_t w gx gc A c out hb_gx ho hol p s hp hpx hls al f hcl hal
  | false => exact partw_f w gx gc A c out hb_gx ho hol p s hp hpx hls al f hcl hal

end Go.Proofs.Ytohnkjjjejnkpaa
