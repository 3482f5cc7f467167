/-
  The contracts of the frame functions and of their reference.
-/
import Derived.Test.YtohnkjjjejnkpaaVi
import Derived.Test.YtohnkjjjejnkpaaRes
import Derived.Test.YtohnkjjjejnkpaaBel
import Derived.Test.YtohnkjjjejnkpaaFrame
namespace Go.Proofs.Ytohnkjjjejnkpaa
open Go.RowKit
set_option linter.unusedVariables false
set_option maxRecDepth 4000
theorem fo34_0 : fieldOff Try.prog 34 0 = some 0 := by kernel_rfl
theorem fo34_1 : fieldOff Try.prog 34 1 = some 1 := by kernel_rfl
theorem oc32 : oneCellTy Try.prog 32 = true := by kernel_rfl

/-- What a call of Write leaves. -/
def FWrite (w : World) (x : UInt8) (p : List UInt8) (v : Value) (w' : World) : Prop :=
  ∃ A c, v = .tuple #[.slice A (fwrite x p).1.length c, .int .i64 ((fwrite x p).2 : Int)] ∧ OwnB w' w.heap.size 5 A c (fwrite x p).1 ∧ Ext w w'
theorem fwrite_mk {w w' : World} {x : UInt8} {p b : List UInt8} {e : Nat} (h : fwrite x p = (b, e)) {A : Option Addr} {c : Nat} (ho : OwnB w' w.heap.size 5 A c b) (hE : Ext w w') : FWrite w x p (.tuple #[.slice A b.length c, .int .i64 (e : Int)]) w' := by
  unfold FWrite; rw [h]; exact ⟨A, c, rfl, ho, hE⟩
/-- What a call of Read leaves. -/
def FRead (w : World) (l : List UInt8) (most : Int) (v : Value) (w' : World) : Prop :=
  ∃ A c, v = .tuple #[.agg #[.int .u8 ((fread l most).1.1.toNat : Int), .slice A (fread l most).1.2.length c], .int .i64 ((fread l most).2.1 : Int), .int .i64 ((fread l most).2.2 : Int)] ∧ OwnB w' w.heap.size 5 A c (fread l most).1.2 ∧ Ext w w'
theorem fread_mk {w w' : World} {l : List UInt8} {most : Int} {x : UInt8} {p : List UInt8} {s e : Nat} (h : fread l most = ((x, p), s, e)) {A : Option Addr} {c : Nat} (ho : OwnB w' w.heap.size 5 A c p) (hE : Ext w w') :
    FRead w l most (.tuple #[.agg #[.int .u8 (x.toNat : Int), .slice A p.length c], .int .i64 (s : Int), .int .i64 (e : Int)]) w' := by
  unfold FRead; rw [h]; exact ⟨A, c, rfl, ho, hE⟩
theorem toNat_inj {x y : UInt8} (h : (x.toNat : Int) = (y.toNat : Int)) : x = y := UInt8.toNat_inj.1 (by omega)

theorem bequal_any (w : World) (lo hi lo2 hi2 : Nat) (A : Option Addr) (c : Nat) (p : List UInt8) (B : Option Addr) (c2 : Nat) (q : List UInt8) (hr : RdB w lo hi A c p) (hr2 : RdB w lo2 hi2 B c2 q) :
    Fn Try.prog 52 #[(.slice A p.length c), (.slice B q.length c2)] w (fun v w' => v = .bool (decide (p = q)) ∧ w' = w)  := by
  refine fn_enter (args := [(.slice A p.length c), (.slice B q.length c2)]) Try.func52 rfl rfl rfl ?_
  show WC _ _ _ _ [(0, (.slice A p.length c)), (1, (.slice B q.length c2))] _
  refine wc_seq (wc_regionL ?_)
  refine va rfl rfl ?_
  refine q_nil (k_then (wc_seq (wc_regionL ?_)))
  refine vm rfl rfl ?_
  refine wl_val (ov_bstr bt32 Try.underlying9 rfl hr) rfl rfl rfl ?_
  refine vm rfl rfl ?_
  refine wl_val (ov_bstr bt32 Try.underlying9 rfl hr2) rfl rfl rfl ?_
  refine wl_val (ov_seq rfl rfl) rfl rfl rfl ?_
  refine va rfl rfl ?_
  refine q_nil (k_then (q_ret ?_))
  refine e_ret rfl rfl ?_
  exact ⟨rfl, rfl⟩

theorem rfequal_any (w : World) (lo hi lo2 hi2 : Nat) (x : UInt8) (A : Option Addr) (c : Nat) (p : List UInt8) (y : UInt8) (B : Option Addr) (c2 : Nat) (q : List UInt8) (hr : RdB w lo hi A c p) (hr2 : RdB w lo2 hi2 B c2 q) :
    Fn Try.prog 16 #[(.agg #[(.int .u8 (↑x.toNat : Int)), (.slice A p.length c)]), (.agg #[(.int .u8 (↑y.toNat : Int)), (.slice B q.length c2)])] w (fun v w' => v = .bool (decide ((x, p) = (y, q))) ∧ Ext w w')  := by
  replace hr := hr.top
  replace hr2 := hr2.top
  have hE := ext_refl w
  refine fn_enter (args := [(.agg #[(.int .u8 (↑x.toNat : Int)), (.slice A p.length c)]), (.agg #[(.int .u8 (↑y.toNat : Int)), (.slice B q.length c2)])]) Try.func16 rfl rfl rfl ?_
  show WC _ _ _ _ [(0, (.agg #[(.int .u8 (↑x.toNat : Int)), (.slice A p.length c)])), (1, (.agg #[(.int .u8 (↑y.toNat : Int)), (.slice B q.length c2)]))] _
  refine wc_seq (wc_regionL ?_)
  refine wl_step (or_box (cs := [(.int .u8 (↑x.toNat : Int)), (.slice A p.length c)]) rfl rfl) rfl rfl rfl ?_
  rintro v w1 ⟨g2, rfl, hb_g2, he2, hl2, hu2⟩
  replace hr := hr.ext he2
  replace hr2 := hr2.ext he2
  replace hE := hE.tr he2
  have hz_he2 := he2.size
  refine wl_step (or_box (cs := [(.int .u8 (↑y.toNat : Int)), (.slice B q.length c2)]) rfl rfl) rfl rfl rfl ?_
  rintro v w2 ⟨g3, rfl, hb_g3, he3, hl3, hu3⟩
  replace hr := hr.ext he3
  replace hr2 := hr2.ext he3
  replace hE := hE.tr he3
  replace hb_g2 := hb_g2.ext he3
  have hz_he3 := he3.size
  refine va rfl rfl ?_
  refine q_nil (k_then (wc_seq (wc_regionL ?_)))
  refine wl_val (ov_field0 (off := 0) fo34_0 rfl) rfl rfl rfl ?_
  refine wl_val (ov_loadAt oc5 rfl hb_g2 rfl) rfl rfl rfl ?_
  refine wl_val (ov_field0 (off := 0) fo34_0 rfl) rfl rfl rfl ?_
  refine wl_val (ov_loadAt oc5 rfl hb_g3 rfl) rfl rfl rfl ?_
  refine ve rfl rfl rfl ?_
  refine wl_case_d (d := 9) rfl (fun hxy => ?_) (fun hxy => ?_)
  · refine vm rfl rfl ?_
    refine wl_gval (ov_field0 (off := 1) fo34_1 rfl) rfl rfl rfl rfl rfl ?_
    refine wl_gval (ov_loadAt oc32 rfl hb_g2 rfl) rfl rfl rfl rfl rfl ?_
    refine wl_gval (ov_bstr bt32 Try.underlying9 rfl hr) rfl rfl rfl rfl rfl ?_
    refine wl_gval (ov_field0 (off := 1) fo34_1 rfl) rfl rfl rfl rfl rfl ?_
    refine wl_gval (ov_loadAt oc32 rfl hb_g3 rfl) rfl rfl rfl rfl rfl ?_
    refine wl_gval (ov_bstr bt32 Try.underlying9 rfl hr2) rfl rfl rfl rfl rfl ?_
    refine wl_gval (ov_seq rfl rfl) rfl rfl rfl rfl rfl ?_
    refine wl_val (ov_pick_t rfl rfl) rfl rfl rfl ?_
    refine va rfl rfl ?_
    refine q_nil (k_then (q_ret ?_))
    refine e_ret rfl rfl ?_
    refine ⟨?_, hE⟩
    congr 1
    rw [decide_eq_decide]
    exact ⟨fun h => Prod.ext (toNat_inj hxy) h, fun h => congrArg Prod.snd h⟩
  · refine vm rfl rfl ?_
    iterate 7 refine wl_gskip rfl rfl rfl rfl rfl rfl ?_
    refine wl_val (ov_pick_f rfl rfl) rfl rfl rfl ?_
    refine va rfl rfl ?_
    refine q_nil (k_then (q_ret ?_))
    refine e_ret rfl rfl ?_
    refine ⟨(bf fun h => hxy (by rw [show x = y from congrArg Prod.fst h])).symm, hE⟩

end Go.Proofs.Ytohnkjjjejnkpaa
