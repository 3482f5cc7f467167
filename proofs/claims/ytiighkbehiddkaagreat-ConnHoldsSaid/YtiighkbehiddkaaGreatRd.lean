/-
 Items and numbers of a response, read.
-/
import Derived.Test.YtiighkbehiddkaaGreatRc
namespace Go.Proofs.YtiighkbehiddkaaGreat
open Go.RowKit
set_option linter.unusedVariables false
set_option maxRecDepth 4000
theorem cl127 : callable Tryz.prog 127 = true := by kernel_rfl
theorem pl80 : placesOf Tryz.prog 80 = some [(0, 1), (1, 1), (2, 1), (3, 1)] := by kernel_rfl
theorem sz41 : (Tryz.prog.info? 41).map (·.size) = some 1 := by kernel_rfl
/-- The errors of what is read. -/
def nE (l : List UInt8) : Nat := (vget l).2.2
def bE (l : List UInt8) : Nat := (vpart l 65536).2.2
theorem nK_of {l : List UInt8} (h : ¬ (nE l : Int) ≠ 0) : nK l = true := decide_eq_true (by unfold nE at h; omega)
theorem nK_not {l : List UInt8} (h : (nE l : Int) ≠ 0) : nK l = false := decide_eq_false (by unfold nE at h; omega)
theorem bK_of {l : List UInt8} (h : ¬ (bE l : Int) ≠ 0) : bK l = true := decide_eq_true (by unfold bE at h; omega)
theorem bK_not {l : List UInt8} (h : (bE l : Int) ≠ 0) : bK l = false := decide_eq_false (by unfold bE at h; omega)
theorem num8 (w : World) (gr lo hi : Nat) (A : Option Addr) (c : Nat) (l : List UInt8) (hb_gr : Blk w gr 178 [.bool true, .slice A l.length c]) (hr : RdB w lo hi A c l) (hro : gr < lo ∨ hi ≤ gr) (hlen : l.length ≤ 140737488355328) : Fn Tryz.prog 129 #[.pointer (some ⟨gr, 0, none⟩)] w (fun v w' => v = .tuple #[.int .u64 (nV l : Int), .int .i64 (nE l : Int)] ∧ RdrAt8 w' gr lo hi (nR l) ∧ Gr w w' (some gr)) :=
 (number_ok w gr lo hi A c l hb_gr hr hro hlen).mono fun _ _ ⟨hv, hg, hx⟩ => ⟨hv, hx, hg⟩
theorem byt8 (w : World) (gr lo hi : Nat) (A : Option Addr) (c : Nat) (l : List UInt8) (hb_gr : Blk w gr 178 [.bool true, .slice A l.length c]) (hr : RdB w lo hi A c l) (hro : gr < lo ∨ hi ≤ gr) (hlen : l.length ≤ 140737488355328) : Fn Tryz.prog 127 #[.pointer (some ⟨gr, 0, none⟩), .int .i64 65536] w (fun v w' => ∃ B d, v = .tuple #[.slice B (bV l).length d, .int .i64 (bE l : Int)] ∧ OwnB w' w.heap.size 5 B d (bV l) ∧ RdrAt8 w' gr lo hi (bR l) ∧ Gr w w' (some gr)) :=
 (rbytes_ok w gr lo hi A c l hb_gr hr hro hlen 65536 (by decide)).mono fun _ _ ⟨⟨B, d, hv, ho⟩, hg, hx⟩ => ⟨B, d, hv, ho, hx, hg⟩
/-- The values of the items that have been read. -/
def VR (w : World) (lo : Nat) (xs : List IT) : Prop := ∀ x ∈ xs, RdB w lo w.heap.size x.2.1 x.2.2 x.1.value
theorem VR.gr {w w' : World} {lo : Nat} {xs : List IT} (h : VR w lo xs) {row : Option Nat} (hg : Gr w w' row) (hr : ∀ g, row = some g → g < lo) : VR w' lo xs :=
 fun x hx => ((h x hx).gr hg fun g e => .inl (hr g e)).mono (Nat.le_refl _) hg.size
theorem VR.ext {w w' : World} {lo : Nat} {xs : List IT} (h : VR w lo xs) (he : Ext w w') : VR w' lo xs := h.gr he fun _ e => by cases e
theorem VR.add {w : World} {lo : Nat} {xs : List IT} {x : IT} (h : VR w lo xs) (hx : RdB w lo w.heap.size x.2.1 x.2.2 x.1.value) : VR w lo (xs ++ [x]) := by
 intro y hy
 rcases List.mem_append.1 hy with hy | hy
 ·exact h y hy
 ·rw [List.mem_singleton.1 hy]; exact hx
theorem irows_succ (xs : List IT) (n : Nat) : irows xs (n + 1) = xs.flatMap itc ++ itc zT ++ (List.replicate n zT).flatMap itc := by
 unfold irows; rw [List.replicate_succ, List.flatMap_cons, List.append_assoc]
theorem irows_add (xs : List IT) (x : IT) (n : Nat) : irows (xs ++ [x]) n = xs.flatMap itc ++ itc x ++ (List.replicate n zT).flatMap itc := by
 unfold irows; rw [List.flatMap_append]; simp
theorem vals_add (xs : List IT) (x : IT) : vals (xs ++ [x]) = vals xs ++ [x.1] := by unfold vals; rw [List.map_append]; rfl
section
variable {P : Program} {L : Env} {w : World} {d : Option Nat} {ty : TypeId} {pos : String} {aft : Array Edge} {gd : Option (Nat × Bool)}
theorem ov_aindex {t e : TypeId} {size bytes : Nat} {z : Value} (T : SliceTy P t e size bytes z) {x y : Operand} {g n c : Nat} {k : IntKind} {i : Int} {m : Nat} (hx : ev L x = some (.slice (some ⟨g, 0, none⟩) n c)) (hy : ev L y = some (.int k i)) (hi : i = (m : Int)) (hm : m < n) :
  OpVal P ⟨d, .indexAddr t x y, ty, pos, aft, gd⟩ L w (.pointer (some ⟨g, m * size, none⟩)) := by
 subst hi
 have h := or_indexAddr (d := d) (ty := ty) (pos := pos) (aft := aft) (gd := gd) (w := w) T hx hy (by omega) (by omega)
 rw [Addr.add_lit, Nat.zero_add, Int.toNat_natCast] at h
 exact h
/-- A store of a whole struct amid a block. -/
theorem or_storeMid {t tb : TypeId} {x y : Operand} {g o : Nat} {cs a b c vs : List Value} (ht : (P.info? t).map (·.size) = some vs.length) (hx : ev L x = some (.pointer (some ⟨g, o, none⟩))) (hy : ev L y = some (.agg vs.toArray)) (h1v : ∀ u ∈ vs, u.oneCell' = true) (hb : Blk w g tb cs)
  (hcs : cs = a ++ b ++ c) (ha : a.length = o) (hl : b.length = vs.length) : OpRun P ⟨d, .store t x y, ty, pos, aft, gd⟩ L w fun _ w' => Blk w' g tb (a ++ vs ++ c) ∧ Gr w w' (some g) :=
 opRun_skip fun ρ h1 _ => by
  obtain ⟨inf, hinf, hsz⟩ := Option.map_eq_some_iff.1 ht
  subst hcs
  have hst := run_storeCells_at P g o tb vs 0 (a ++ b ++ c).toArray w hb (by simp; omega) h1v
  have e : ((a ++ b ++ c).toArray.toList.take (o + 0) ++ vs ++ (a ++ b ++ c).toArray.toList.drop (o + 0 + vs.length)) = a ++ vs ++ c := by
   rw [Nat.add_zero, List.append_assoc a b c, List.take_left' ha, ← hl, ← ha, ← List.drop_drop, List.drop_left, List.drop_left]
  rw [e] at hst
  refine ⟨w.setRow g (a ++ vs ++ c).toArray, ?_, setRow_heap w g _ _ tb _ hb, ⟨rfl, rfl, rfl, by simp, fun k _ hk => setRow_other w g k _ (fun e => hk (by simp [e]))⟩⟩
  simp [execOp, h1 x _ hx, h1 y _ hy, Instr.storeAt, Instr.sureAddr, storeVar, sizeOf_run hinf, hsz, Value.cells, hst]
end
theorem iK_bad {l : List UInt8} (h : rK 2 l = false) : iK l = false := by unfold iK; rw [h]; rfl
theorem iK_zero {l : List UInt8} (h : rK 2 l = true) (h0 : nV l = 0) : iK l = true ∧ iV l = zI ∧ iR l = nR l := by
 refine ⟨by unfold iK; rw [h, decide_eq_true h0]; rfl, if_pos h0, if_pos h0⟩
theorem iK_full {l : List UInt8} (h : rK 2 l = true) (h0 : ¬ nV l = 0) : iK l = (nK (nR l) && nK (nR (nR l)) && bK (nR (nR (nR l)))) ∧ iV l = ⟨nV l, bV (nR (nR (nR l))), nV (nR l), nV (nR (nR l))⟩ ∧ iR l = bR (nR (nR (nR l))) := by
 refine ⟨by unfold iK; rw [h, decide_eq_false h0]; simp, if_neg h0, if_neg h0⟩
theorem rK_le {m : Nat} {l : List UInt8} (h : rK m l = true) : nV l ≤ m := by unfold rK at h; rw [Bool.and_eq_true, decide_eq_true_eq] at h; exact h.2
/-- Numbers. -/
def uF (l : List UInt8) (k : Nat) : Bool := rK 64 l && (uS k (nR l)).2.2
theorem uF_mono {l : List UInt8} {k n : Nat} (h : k ≤ n) (he : uF l k = false) : uF l n = false := by
 unfold uF at *
 cases hr : rK 64 l with
 | false => rfl
 | true => rw [hr, Bool.true_and] at he; rw [uS_mono _ h he]; rfl
theorem uF_succ {l : List UInt8} {k : Nat} (h : uF l k = true) : uF l (k + 1) = nK (uS k (nR l)).2.1 := by
 unfold uF at *
 rw [Bool.and_eq_true] at h
 rw [h.1, Bool.true_and, uS, h.2, Bool.true_and]
theorem geti (w : World) (gr lo hi : Nat) (A : Option Addr) (c : Nat) (l : List UInt8) (hb_gr : Blk w gr 178 [.bool true, .slice A l.length c]) (hr : RdB w lo hi A c l) (hro : gr < lo ∨ hi ≤ gr) (hlen : l.length ≤ 140737488355328) (gx ge : Nat) (x : Rsp) (cx : Nat) (N : Option Addr) (cn : Nat) (hb_gx : Blk w gx 43 (rspc x (some ⟨ge, 0, none⟩) cx N cn)) (hb_ge : Blk w ge 80 (irows [] x.items.length)) (hne : gx ≠ gr) (hxo : gx < lo ∨ hi ≤ gx) (hex : ge ≠ gx) (her : ge ≠ gr) (heo : ge < lo ∨ hi ≤ ge) (hhi : hi ≤ w.heap.size) (hn16 : x.items.length ≤ 16) :
    Fn Tryz.prog 138 #[(.pointer (some ⟨gr, 0, none⟩)), (.pointer (some ⟨gx, 0, none⟩))] w (fun v w' => v = .bool (iS x.items.length l).2.2 ∧ Kp [ge, gr] w w' ∧ ((iS x.items.length l).2.2 = true → ∃ xs, vals xs = (iS x.items.length l).1 ∧ Blk w' ge 80 (xs.flatMap itc) ∧ VR w' w.heap.size xs ∧ Blk w' gx 43 (rspc x (some ⟨ge, 0, none⟩) cx N cn) ∧ RdrAt8 w' gr lo hi (iS x.items.length l).2.1))  := by
  have hK := Kp.refl [ge, gr] w
  have hgxl := hb_gx.lt
  have hgrl := hb_gr.lt
  have hgel := hb_ge.lt
  refine fn_enter (args := [(.pointer (some ⟨gr, 0, none⟩)), (.pointer (some ⟨gx, 0, none⟩))]) Tryz.func138 rfl rfl rfl ?_
  show WC _ _ _ _ [(0, (.pointer (some ⟨gr, 0, none⟩))), (1, (.pointer (some ⟨gx, 0, none⟩)))] _
  refine wc_seq (wc_regionL ?_)
  refine va rfl rfl ?_
  refine q_nil (k_then (wc_seq (wc_seq (wc_regionL ?_))))
  refine vm rfl rfl ?_
  refine vn rfl rfl ?_
  refine wl_val (ov_field0 (off := 2) fo43_2 rfl) rfl rfl rfl ?_
  refine wl_val (ov_loadAt oc40 rfl hb_gx rfl) rfl rfl rfl ?_
  refine wl_val (ov_len Tryz.underlying40 rfl) rfl rfl rfl ?_
  refine vm rfl rfl ?_
  refine q_nil (k_then (wc_block ?_))
  refine wc_loop (σ := Nat × List IT) (fun s => x.items.length - s.1) (fun s => [(0, .pointer (some ⟨gr, 0, none⟩)), (1, .pointer (some ⟨gx, 0, none⟩)), (19, .int .i64 (x.items.length : Int)), (20, .int .i64 (s.1 : Int))]) (fun s w' => s.1 ≤ x.items.length ∧ s.2.length = s.1 ∧ vals s.2 = (iS s.1 l).1 ∧ (iS s.1 l).2.2 = true ∧ RdrAt8 w' gr lo hi (iS s.1 l).2.1 ∧ Blk w' gx 43 (rspc x (some ⟨ge, 0, none⟩) cx N cn) ∧ Blk w' ge 80 (irows s.2 (x.items.length - s.1)) ∧ VR w' w.heap.size s.2 ∧ Kp [ge, gr] w w') ((0, [])) (⟨Nat.zero_le _, rfl, rfl, rfl, ⟨A, c, hb_gr, hr⟩, hb_gx, hb_ge, fun _ h => (by cases h), hK⟩) (⟨rfl, rfl, rfl, rfl, trivial⟩) ?_
  rintro ⟨i, xs⟩ wq ⟨hi0, hxl, hxv, hok, ⟨Ai, ci, hb_gr, hri⟩, hb_gx, hb_ge, hvx, hK⟩
  show WC _ _ _ _ [(0, (.pointer (some ⟨gr, 0, none⟩))), (1, (.pointer (some ⟨gx, 0, none⟩))), (19, (.int .i64 (↑x.items.length : Int))), (20, (.int .i64 (↑i : Int)))] _
  simp only at hi0 hxl hxv hok
  replace hri : RdB wq lo hi Ai ci (iS i l).2.1 := hri
  replace hb_gr : Blk wq gr 178 [.bool true, .slice Ai (iS i l).2.1.length ci] := hb_gr
  replace hb_ge : Blk wq ge 80 (irows xs (x.items.length - i)) := hb_ge
  replace hvx : VR wq w.heap.size xs := hvx
  have hz_K := hK.size
  have hll := (iS_len l i).2
  refine wc_seq (wc_regionL ?_)
  refine wl_val (ov_lss rfl rfl) rfl rfl rfl ?_
  refine q_nil (k_then (wc_seq ?_))
  refine wc_cond_d rfl (fun hc1 => ?_) (fun hc1 => ?_)
  · refine q_skip (k_then (wc_seq (wc_block (wc_seq (wc_regionL ?_)))))
    refine vm rfl rfl ?_
    refine va rfl rfl ?_
    refine q_nil (k_then (wc_seq (wc_regionL ?_)))
    refine vm rfl rfl ?_
    refine wl_step (or_call0 cl118 rfl rfl (rd8_any _ gr _ _ Ai ci (iS i l).2.1 hb_gr hri (by omega) (by omega) 2 (by omega))) rfl rfl rfl ?_
    rintro v w1 ⟨rfl, ⟨A25, c25, hb25, hr25⟩, hg25⟩
    have hz_hg25 := hg25.size
    replace hb_gx := hb_gx.gr hg25 (by intro e; cases e; omega)
    replace hb_ge := hb_ge.gr hg25 (by intro e; cases e; omega)
    replace hvx := VR.gr hvx hg25 (fun _ e => by cases e; omega)
    replace hK := Kp.tg hK hg25 (by first | (left; simp; done) | (right; omega))
    have hb_gr := hb25
    have hl25 := nR_len (iS i l).2.1
    have hv25 := nV_lt (iS i l).2.1
    refine vm rfl rfl ?_
    iterate 2 refine vx rfl rfl rfl ?_
    iterate 2 refine va rfl rfl ?_
    refine q_nil (k_then (wc_seq (wc_seq (wc_regionL ?_))))
    refine vm rfl rfl ?_
    refine wl_val (ov_not rfl) rfl rfl rfl ?_
    refine q_nil (k_then ?_)
    refine wc_cond rfl (fun hc2 => ?_) (fun hc2 => ?_)
    · have hk2 : rK 2 (iS i l).2.1 = false := by simpa using hc2
      have hkb := iK_bad hk2
      refine wc_seq (wc_regionL ?_)
      refine va rfl rfl ?_
      refine q_nil (k_then (q_ret (k_thenR (k_blockR (k_thenR (k_thenR (k_blockR (k_thenR ?_))))))))
      refine e_ret rfl rfl ?_
      first
        | exact ⟨by rw [hok], hK, fun _ => ⟨xs, hxv, hb_ge, hvx, hb_gx, Ai, ci, hb_gr, hri⟩⟩
        | (refine ⟨?_, hK, fun h => ?_⟩
           · rw [iS_mono l (k := i + 1) (n := x.items.length) (by omega) (by rw [iS, hkb]; simp)]
           · rw [iS_mono l (k := i + 1) (n := x.items.length) (by omega) (by rw [iS, hkb]; simp)] at h; cases h)
    · have hk2 : rK 2 (iS i l).2.1 = true := by simpa using hc2
      have hle2 := rK_le hk2
      refine q_skip (k_then (wc_seq (wc_regionL ?_)))
      refine vm rfl rfl ?_
      refine vn rfl rfl ?_
      refine wl_val (ov_field0 (off := 2) fo43_2 rfl) rfl rfl rfl ?_
      refine wl_val (ov_loadAt oc40 rfl hb_gx rfl) rfl rfl rfl ?_
      refine vm rfl rfl ?_
      refine wl_val (ov_aindex (m := i) sl40 rfl rfl rfl (by omega)) rfl rfl rfl ?_
      refine va rfl rfl ?_
      refine q_nil (k_then (wc_seq (wc_regionL ?_)))
      refine vm rfl rfl ?_
      refine wl_val (ov_gtr rfl rfl) rfl rfl rfl ?_
      refine q_nil (k_then ?_)
      refine wc_cond_d rfl (fun hc3 => ?_) (fun hc3 => ?_)
      · have hm0 : ¬ nV (iS i l).2.1 = 0 := by omega
        refine wc_seq (wc_regionL ?_)
        refine vm rfl rfl ?_
        refine wl_step (or_call0 cl129 rfl rfl (num8 _ gr _ _ A25 c25 (nR (iS i l).2.1) hb_gr hr25 (by omega) (by omega))) rfl rfl rfl ?_
        rintro v w202 ⟨rfl, ⟨A40, c40, hb40, hr40⟩, hg40⟩
        have hz_hg40 := hg40.size
        replace hb_gx := hb_gx.gr hg40 (by intro e; cases e; omega)
        replace hb_ge := hb_ge.gr hg40 (by intro e; cases e; omega)
        replace hvx := VR.gr hvx hg40 (fun _ e => by cases e; omega)
        replace hK := Kp.tg hK hg40 (by first | (left; simp; done) | (right; omega))
        have hb_gr := hb40
        have hl40 := nR_len (nR (iS i l).2.1)
        have hv40 := nV_lt (nR (iS i l).2.1)
        refine vm rfl rfl ?_
        iterate 2 refine vx rfl rfl rfl ?_
        iterate 2 refine va rfl rfl ?_
        refine q_nil (k_then (wc_seq (wc_regionL ?_)))
        refine vm rfl rfl ?_
        refine wl_step (or_call0 cl129 rfl rfl (num8 _ gr _ _ A40 c40 (nR (nR (iS i l).2.1)) hb_gr hr40 (by omega) (by omega))) rfl rfl rfl ?_
        rintro v w203 ⟨rfl, ⟨A45, c45, hb45, hr45⟩, hg45⟩
        have hz_hg45 := hg45.size
        replace hb_gx := hb_gx.gr hg45 (by intro e; cases e; omega)
        replace hb_ge := hb_ge.gr hg45 (by intro e; cases e; omega)
        replace hvx := VR.gr hvx hg45 (fun _ e => by cases e; omega)
        replace hK := Kp.tg hK hg45 (by first | (left; simp; done) | (right; omega))
        have hb_gr := hb45
        have hl45 := nR_len (nR (nR (iS i l).2.1))
        have hv45 := nV_lt (nR (nR (iS i l).2.1))
        refine vm rfl rfl ?_
        iterate 2 refine vx rfl rfl rfl ?_
        iterate 2 refine va rfl rfl ?_
        refine q_nil (k_then (wc_seq (wc_regionL ?_)))
        refine vm rfl rfl ?_
        refine wl_step (or_call0 cl127 rfl rfl (byt8 _ gr _ _ A45 c45 (nR (nR (nR (iS i l).2.1))) hb_gr hr45 (by omega) (by omega))) rfl rfl rfl ?_
        rintro v w204 ⟨B50, d50, rfl, ho50, ⟨A50, c50, hb50, hr50⟩, hg50⟩
        have hz_hg50 := hg50.size
        replace hb_gx := hb_gx.gr hg50 (by intro e; cases e; omega)
        replace hb_ge := hb_ge.gr hg50 (by intro e; cases e; omega)
        replace hvx := VR.gr hvx hg50 (fun _ e => by cases e; omega)
        replace hK := Kp.tg hK hg50 (by first | (left; simp; done) | (right; omega))
        have hb_gr := hb50
        have hq_ho50 := fun g e => Own.lt ho50 (g := g) e
        have hl50 := bR_len (nR (nR (nR (iS i l).2.1)))
        have hv50 := bV_len (nR (nR (nR (iS i l).2.1)))
        refine vm rfl rfl ?_
        iterate 2 refine vx rfl rfl rfl ?_
        iterate 2 refine va rfl rfl ?_
        refine q_nil (k_then (wc_seq (wc_seq (wc_regionL ?_))))
        refine vm rfl rfl ?_
        refine wl_val (ov_neq rfl rfl) rfl rfl rfl ?_
        refine wl_case_d (d := 54) rfl (fun h54 => ?_) (fun h54 => ?_)
        · have hkb : iK (iS i l).2.1 = false := by rw [(iK_full hk2 hm0).1, nK_not h54]; rfl
          refine vm rfl rfl ?_
          iterate 2 refine wl_gskip rfl rfl rfl rfl rfl rfl ?_
          refine wl_val (ov_pick_t rfl rfl) rfl rfl rfl ?_
          refine vm rfl rfl ?_
          iterate 2 refine wl_gskip rfl rfl rfl rfl rfl rfl ?_
          refine wl_val (ov_pick_t rfl rfl) rfl rfl rfl ?_
          refine q_nil (k_then ?_)
          refine wc_cond_t rfl ?_
          refine wc_seq (wc_regionL ?_)
          refine va rfl rfl ?_
          refine q_nil (k_then (q_ret (k_thenR (k_blockR (k_thenR (k_thenR (k_blockR (k_thenR ?_))))))))
          refine e_ret rfl rfl ?_
          first
            | exact ⟨by rw [hok], hK, fun _ => ⟨xs, hxv, hb_ge, hvx, hb_gx, Ai, ci, hb_gr, hri⟩⟩
            | (refine ⟨?_, hK, fun h => ?_⟩
               · rw [iS_mono l (k := i + 1) (n := x.items.length) (by omega) (by rw [iS, hkb]; simp)]
               · rw [iS_mono l (k := i + 1) (n := x.items.length) (by omega) (by rw [iS, hkb]; simp)] at h; cases h)
        · refine vm rfl rfl ?_
          refine wl_gval (ov_move rfl) rfl rfl rfl rfl rfl ?_
          refine wl_gval (ov_neq rfl rfl) rfl rfl rfl rfl rfl ?_
          refine wl_case_d (d := 57) rfl (fun h57 => ?_) (fun h57 => ?_)
          · have hkb : iK (iS i l).2.1 = false := by rw [(iK_full hk2 hm0).1, nK_not h57, Bool.and_false]; rfl
            refine wl_val (ov_pick_f rfl rfl) rfl rfl rfl ?_
            refine vm rfl rfl ?_
            iterate 2 refine wl_gskip rfl rfl rfl rfl rfl rfl ?_
            refine wl_val (ov_pick_t rfl rfl) rfl rfl rfl ?_
            refine q_nil (k_then ?_)
            refine wc_cond_t rfl ?_
            refine wc_seq (wc_regionL ?_)
            refine va rfl rfl ?_
            refine q_nil (k_then (q_ret (k_thenR (k_blockR (k_thenR (k_thenR (k_blockR (k_thenR ?_))))))))
            refine e_ret rfl rfl ?_
            first
              | exact ⟨by rw [hok], hK, fun _ => ⟨xs, hxv, hb_ge, hvx, hb_gx, Ai, ci, hb_gr, hri⟩⟩
              | (refine ⟨?_, hK, fun h => ?_⟩
                 · rw [iS_mono l (k := i + 1) (n := x.items.length) (by omega) (by rw [iS, hkb]; simp)]
                 · rw [iS_mono l (k := i + 1) (n := x.items.length) (by omega) (by rw [iS, hkb]; simp)] at h; cases h)
          · refine wl_val (ov_pick_f rfl rfl) rfl rfl rfl ?_
            refine vm rfl rfl ?_
            refine wl_gval (ov_move rfl) rfl rfl rfl rfl rfl ?_
            refine wl_gval (ov_neq rfl rfl) rfl rfl rfl rfl rfl ?_
            refine wl_val (ov_pick_f rfl rfl) rfl rfl rfl ?_
            refine q_nil (k_then ?_)
            refine wc_cond_d rfl (fun hc4 => ?_) (fun hc4 => ?_)
            · have hkb : iK (iS i l).2.1 = false := by rw [(iK_full hk2 hm0).1, bK_not hc4, Bool.and_false]
              refine wc_seq (wc_regionL ?_)
              refine va rfl rfl ?_
              refine q_nil (k_then (q_ret (k_thenR (k_blockR (k_thenR (k_thenR (k_blockR (k_thenR ?_))))))))
              refine e_ret rfl rfl ?_
              first
                | exact ⟨by rw [hok], hK, fun _ => ⟨xs, hxv, hb_ge, hvx, hb_gx, Ai, ci, hb_gr, hri⟩⟩
                | (refine ⟨?_, hK, fun h => ?_⟩
                   · rw [iS_mono l (k := i + 1) (n := x.items.length) (by omega) (by rw [iS, hkb]; simp)]
                   · rw [iS_mono l (k := i + 1) (n := x.items.length) (by omega) (by rw [iS, hkb]; simp)] at h; cases h)
            · refine q_skip (k_then (wc_regionL ?_))
              iterate 2 refine vm rfl rfl ?_
              refine wl_val (ov_conv Tryz.underlying36 Tryz.underlying78 rfl (wi64 (by omega) (by omega))) rfl rfl rfl ?_
              iterate 3 refine vm rfl rfl ?_
              refine wl_val (ov_build (cs := [(.int .i64 (↑(nV (iS i l).2.1) : Int)), (.slice B50 (bV (nR (nR (nR (iS i l).2.1)))).length d50), (.int .u64 (↑(nV (nR (iS i l).2.1)) : Int)), (.int .u64 (↑(nV (nR (nR (iS i l).2.1))) : Int))]) ze80 pl80 rfl rfl) rfl rfl rfl ?_
              refine vn rfl rfl ?_
              refine wl_step0 (or_storeMid (a := xs.flatMap itc) (b := itc zT) (c := (List.replicate (x.items.length - (i + 1)) zT).flatMap itc) (vs := itc (⟨⟨(↑(nV (iS i l).2.1) : Int), bV (nR (nR (nR (iS i l).2.1))), nV (nR (iS i l).2.1), nV (nR (nR (iS i l).2.1))⟩, B50, d50⟩ : IT)) sz80 rfl rfl (by simp [itc, Value.oneCell']) hb_ge (by rw [← irows_succ, ← show x.items.length - i = (x.items.length - (i + 1)) + 1 by omega]) (by rw [itc_len, hxl]; omega) rfl) rfl rfl ?_
              rintro _ w205 ⟨hN205, hg205⟩
              have hz_hg205 := hg205.size
              replace hb_gx := hb_gx.gr hg205 (by intro e; cases e; omega)
              replace hvx := VR.gr hvx hg205 (fun _ e => by cases e; omega)
              replace hK := Kp.tg hK hg205 (by first | (left; simp; done) | (right; omega))
              replace hb_gr := hb_gr.gr hg205 (by intro e; cases e; omega)
              replace hr50 := hr50.gr hg205 (fun _ e => by cases e; omega)
              replace ho50 := Own.gr ho50 hg205 (by first | exact .inl rfl | (right; intro e; first | (have := hq_ho50 _ e; omega) | (have := Own.lt ho50 e; omega) | exact own_blk_ne ho50 hb_ge (by decide) e))
              replace hb_ge := hN205
              refine q_nil (k_block (k_then (wc_regionL ?_)))
              refine wl_val (ov_add rfl rfl (wi64 (by omega) (by omega))) rfl rfl rfl ?_
              refine vm rfl rfl ?_
              refine q_nil ?_
              have hkk := (iK_full hk2 hm0)
              have hko : iK (iS i l).2.1 = true := by rw [hkk.1, nK_of h54, nK_of h57, bK_of hc4]; rfl
              have hxn : vals (xs ++ [(⟨⟨(↑(nV (iS i l).2.1) : Int), bV (nR (nR (nR (iS i l).2.1))), nV (nR (iS i l).2.1), nV (nR (nR (iS i l).2.1))⟩, B50, d50⟩ : IT)]) = (iS (i + 1) l).1 := by rw [vals_add, hxv, iS, hkk.2.1]
              have hj1 : (xs ++ [(⟨⟨(↑(nV (iS i l).2.1) : Int), bV (nR (nR (nR (iS i l).2.1))), nV (nR (iS i l).2.1), nV (nR (nR (iS i l).2.1))⟩, B50, d50⟩ : IT)]).length = i + 1 := by rw [List.length_append, hxl]; rfl
              have hj2 : (iS (i + 1) l).2.2 = true := by rw [iS, hok, hko]; rfl
              have hj3 : (iS (i + 1) l).2.1 = (bR (nR (nR (nR (iS i l).2.1)))) := hkk.2.2
              have hj4 : Blk w205 gr 178 [.bool true, .slice A50 (iS (i + 1) l).2.1.length c50] := by rw [hj3]; exact hb_gr
              have hj5 : RdB w205 lo hi A50 c50 (iS (i + 1) l).2.1 := by rw [hj3]; exact hr50
              have hj6 : Blk w205 ge 80 (irows (xs ++ [(⟨⟨(↑(nV (iS i l).2.1) : Int), bV (nR (nR (nR (iS i l).2.1))), nV (nR (iS i l).2.1), nV (nR (nR (iS i l).2.1))⟩, B50, d50⟩ : IT)]) (x.items.length - (i + 1))) := by rw [irows_add]; exact hb_ge
              have hj7 : VR w205 w.heap.size (xs ++ [(⟨⟨(↑(nV (iS i l).2.1) : Int), bV (nR (nR (nR (iS i l).2.1))), nV (nR (iS i l).2.1), nV (nR (nR (iS i l).2.1))⟩, B50, d50⟩ : IT)]) := VR.add hvx (x := (⟨⟨(↑(nV (iS i l).2.1) : Int), bV (nR (nR (nR (iS i l).2.1))), nV (nR (iS i l).2.1), nV (nR (nR (iS i l).2.1))⟩, B50, d50⟩ : IT)) ((OwnB.rd ho50).mono (by omega) (Nat.le_refl _))
              refine k_loop ((i + 1, xs ++ [(⟨⟨(↑(nV (iS i l).2.1) : Int), bV (nR (nR (nR (iS i l).2.1))), nV (nR (iS i l).2.1), nV (nR (nR (iS i l).2.1))⟩, B50, d50⟩ : IT)])) (by show x.items.length - (i + 1) < x.items.length - i; omega) (⟨rfl, rfl, rfl, rfl, trivial⟩) (⟨(by show i + 1 ≤ _; omega), hj1, hxn, hj2, ⟨A50, c50, hj4, hj5⟩, hb_gx, hj6, hj7, hK⟩)
      · have hm0 : nV (iS i l).2.1 = 0 := by omega
        refine q_skip (k_block (k_then (wc_regionL ?_)))
        refine wl_val (ov_add rfl rfl (wi64 (by omega) (by omega))) rfl rfl rfl ?_
        refine vm rfl rfl ?_
        refine q_nil ?_
        have hkk := iK_zero hk2 hm0
        have hko : iK (iS i l).2.1 = true := hkk.1
        have hxn : vals (xs ++ [zT]) = (iS (i + 1) l).1 := by rw [vals_add, hxv, iS, hkk.2.1]; rfl
        have hj1 : (xs ++ [zT]).length = i + 1 := by rw [List.length_append, hxl]; rfl
        have hj2 : (iS (i + 1) l).2.2 = true := by rw [iS, hok, hko]; rfl
        have hj3 : (iS (i + 1) l).2.1 = (nR (iS i l).2.1) := hkk.2.2
        have hj4 : Blk w1 gr 178 [.bool true, .slice A25 (iS (i + 1) l).2.1.length c25] := by rw [hj3]; exact hb_gr
        have hj5 : RdB w1 lo hi A25 c25 (iS (i + 1) l).2.1 := by rw [hj3]; exact hr25
        have hj6 : Blk w1 ge 80 (irows (xs ++ [zT]) (x.items.length - (i + 1))) := by rw [irows_add, ← irows_succ, ← show x.items.length - i = (x.items.length - (i + 1)) + 1 from by omega]; exact hb_ge
        have hj7 : VR w1 w.heap.size (xs ++ [zT]) := VR.add hvx (x := zT) (RdB.nil _ _ _)
        refine k_loop ((i + 1, xs ++ [zT])) (by show x.items.length - (i + 1) < x.items.length - i; omega) (⟨rfl, rfl, rfl, rfl, trivial⟩) (⟨(by show i + 1 ≤ _; omega), hj1, hxn, hj2, ⟨A25, c25, hj4, hj5⟩, hb_gx, hj6, hj7, hK⟩)
  · have hix : i = x.items.length := by omega
    subst hix
    rw [Nat.sub_self, show irows xs 0 = xs.flatMap itc from List.append_nil _] at hb_ge
    refine q_exit (k_thenX (k_thenX (k_blockE (k_then (wc_seq (wc_regionL ?_))))))
    refine va rfl rfl ?_
    refine q_nil (k_then (q_ret ?_))
    refine e_ret rfl rfl ?_
    first
      | exact ⟨by rw [hok], hK, fun _ => ⟨xs, hxv, hb_ge, hvx, hb_gx, Ai, ci, hb_gr, hri⟩⟩
      | (refine ⟨?_, hK, fun h => ?_⟩
         · rw [iS_mono l (k := i + 1) (n := x.items.length) (by omega) (by rw [iS, hkb]; simp)]
         · rw [iS_mono l (k := i + 1) (n := x.items.length) (by omega) (by rw [iS, hkb]; simp)] at h; cases h)
theorem getn (w : World) (gr lo hi : Nat) (A : Option Addr) (c : Nat) (l : List UInt8) (hb_gr : Blk w gr 178 [.bool true, .slice A l.length c]) (hr : RdB w lo hi A c l) (hro : gr < lo ∨ hi ≤ gr) (hlen : l.length ≤ 140737488355328) (gx : Nat) (x : Rsp) (X : Option Addr) (cx : Nat) (hnu : x.nums = []) (hb_gx : Blk w gx 43 (rspc x X cx none 0)) (hne : gx ≠ gr) (hxo : gx < lo ∨ hi ≤ gx) (hhi : hi ≤ w.heap.size) :
  Fn Tryz.prog 142 #[(.pointer (some ⟨gr, 0, none⟩)), (.pointer (some ⟨gx, 0, none⟩))] w (fun v w' => v = .bool (uF l (nV l)) ∧ Kp [gx, gr] w w' ∧ (uF l (nV l) = true → ∃ N cn, Blk w' gx 43 (rspc { x with nums := (uS (nV l) (nR l)).1 } X cx N cn) ∧ Own w' w.heap.size 36 1 N (nV l) cn ((uS (nV l) (nR l)).1.flatMap nuc) ∧ RdrAt8 w' gr lo hi (uS (nV l) (nR l)).2.1))  := by
 have hK := Kp.refl [gx, gr] w
 have hgxl := hb_gx.lt
 have hgrl := hb_gr.lt
 replace hb_gx : Blk w gx 43 (rspc { x with nums := [] } X cx none 0) := by rw [show { x with nums := [] } = x from by rw [← hnu]]; exact hb_gx
 refine fn_enter (args := [(.pointer (some ⟨gr, 0, none⟩)), (.pointer (some ⟨gx, 0, none⟩))]) Tryz.func142 rfl rfl rfl ?_
 show WC _ _ _ _ [(0, (.pointer (some ⟨gr, 0, none⟩))), (1, (.pointer (some ⟨gx, 0, none⟩)))] _
 refine wc_seq (wc_regionL ?_)
 refine va rfl rfl ?_
 refine q_nil (k_then (wc_seq (wc_regionL ?_)))
 refine vm rfl rfl ?_
 refine wl_step (or_call0 cl118 rfl rfl (rd8_any _ gr _ _ A c l hb_gr hr (by omega) (by omega) 64 (by omega))) rfl rfl rfl ?_
 rintro v w1 ⟨rfl, ⟨A12, c12, hb12, hr12⟩, hg12⟩
 have hz_hg12 := hg12.size
 replace hb_gx := hb_gx.gr hg12 (by intro e; cases e; omega)
 replace hK := Kp.tg hK hg12 (by first | (left; simp; done) | (right; omega))
 have hb_gr := hb12
 have hl12 := nR_len l
 have hv12 := nV_lt l
 refine vm rfl rfl ?_
 iterate 2 refine vx rfl rfl rfl ?_
 refine wl_spell (d := 14) rfl (v' := (.bool (decide (uF l 0 = true)))) (by show Value.bool (rK 64 l) = _; unfold uF; rw [show (uS 0 (nR l)).2.2 = true from rfl, Bool.and_true, Bool.decide_eq_true]) ?_
 iterate 2 refine va rfl rfl ?_
 refine q_nil (k_then (wc_seq (wc_seq (wc_regionL ?_))))
 refine va rfl rfl ?_
 refine q_nil (k_then (wc_block ?_))
 refine wc_loop (σ := Nat × Option Addr × Nat) (fun s => nV l - s.1) (fun s => [(0, .pointer (some ⟨gr, 0, none⟩)), (1, .pointer (some ⟨gx, 0, none⟩)), (5, .int .u64 (nV l : Int)), (6, .bool (decide (uF l s.1 = true))), (7, .int .u64 (s.1 : Int))]) (fun s w' => s.1 ≤ nV l ∧ RdrAt8 w' gr lo hi (uS s.1 (nR l)).2.1 ∧ Blk w' gx 43 (rspc { x with nums := (uS s.1 (nR l)).1 } X cx s.2.1 s.2.2) ∧ Own w' w.heap.size 36 1 s.2.1 s.1 s.2.2 ((uS s.1 (nR l)).1.flatMap nuc) ∧ Kp [gx, gr] w w') ((0, none, 0)) (⟨Nat.zero_le _, ⟨A12, c12, hb_gr, hr12⟩, hb_gx, Own.nil_ _ _ _ _, hK⟩) (⟨rfl, rfl, rfl, rfl, rfl, trivial⟩) ?_
 rintro ⟨i, Ni, di⟩ wq ⟨hi0, ⟨Ai, ci, hb_gr, hri⟩, hb_gx, hoB, hK⟩
 show WC _ _ _ _ [(0, (.pointer (some ⟨gr, 0, none⟩))), (1, (.pointer (some ⟨gx, 0, none⟩))), (5, (.int .u64 (↑(nV l) : Int))), (6, (.bool (decide (uF l i = true)))), (7, (.int .u64 (↑i : Int)))] _
 simp only at hi0
 replace hri : RdB wq lo hi Ai ci (uS i (nR l)).2.1 := hri
 replace hb_gr : Blk wq gr 178 [.bool true, .slice Ai (uS i (nR l)).2.1.length ci] := hb_gr
 have hul := uS_len (nR l) i
 replace hb_gx : Blk wq gx 43 [.int .i64 x.op, .int .i64 x.err, .slice X x.items.length cx, .int .u64 (x.ver : Int), .int .i64 x.count, .slice Ni i di] := by have h : Blk wq gx _ (rspc _ X cx Ni di) := hb_gx; unfold rspc at h; rw [hul.1] at h; exact h
 replace hoB : Own wq w.heap.size 36 1 Ni i di ((uS i (nR l)).1.flatMap nuc) := hoB
 have hz_K := hK.size
 have hll := hul.2
 have hq_hoB := fun g e => Own.lt hoB (g := g) e
 refine wc_seq (wc_seq (wc_regionL ?_))
 iterate 2 refine vm rfl rfl ?_
 refine wl_case_d (d := 16) rfl (fun h16 => ?_) (fun h16 => ?_)
 ·have h64 : nV l ≤ 64 := rK_le (by unfold uF at h16; rw [Bool.and_eq_true] at h16; exact h16.1)
  iterate 2 refine wl_gval (ov_move rfl) rfl rfl rfl rfl rfl ?_
  refine wl_gval (ov_lss rfl rfl) rfl rfl rfl rfl rfl ?_
  refine wl_val (ov_pick_t rfl rfl) rfl rfl rfl ?_
  refine q_nil (k_then ?_)
  refine wc_cond_d rfl (fun hc1 => ?_) (fun hc1 => ?_)
  ·refine q_skip (k_then (wc_seq (wc_block (wc_seq (wc_regionL ?_)))))
   refine vm rfl rfl ?_
   refine wl_step (or_call0 cl129 rfl rfl (num8 _ gr _ _ Ai ci (uS i (nR l)).2.1 hb_gr hri (by omega) (by omega))) rfl rfl rfl ?_
   rintro v w2 ⟨rfl, ⟨A25, c25, hb25, hr25⟩, hg25⟩
   have hz_hg25 := hg25.size
   replace hb_gx := hb_gx.gr hg25 (by intro e; cases e; omega)
   replace hoB := Own.gr hoB hg25 (by first | exact .inl rfl | (right; intro e; first | (have := hq_hoB _ e; omega) | (have := Own.lt hoB e; omega) | exact own_blk_ne hoB hb_gx (by decide) e))
   replace hK := Kp.tg hK hg25 (by first | (left; simp; done) | (right; omega))
   have hb_gr := hb25
   have hl25 := nR_len (uS i (nR l)).2.1
   have hv25 := nV_lt (uS i (nR l)).2.1
   refine vm rfl rfl ?_
   iterate 2 refine vx rfl rfl rfl ?_
   iterate 2 refine va rfl rfl ?_
   refine q_nil (k_then (wc_regionL ?_))
   iterate 2 refine vm rfl rfl ?_
   refine vn rfl rfl ?_
   refine wl_val (ov_field0 (off := 5) fo43_5 rfl) rfl rfl rfl ?_
   refine wl_val (ov_loadAt oc41 rfl hb_gx rfl) rfl rfl rfl ?_
   refine vm rfl rfl ?_
   refine wl_step (or_buildSlice1 (os := [.tmp 33]) sl41 rfl rfl rfl (by simp [Value.oneCell']) (by decide)) rfl rfl rfl ?_
   rintro v w3 ⟨g34, rfl, hb_g34, he34, hl34, hu34, _⟩
   replace hb_gx := hb_gx.ext he34
   replace hoB := Own.ext hoB he34
   replace hK := Kp.te hK he34
   replace hb_gr := hb_gr.ext he34
   replace hr25 := hr25.ext he34
   have hz_he34 := he34.size
   refine wl_step (or_append sl41 rfl hoB rfl (Blk.rd1 hb_g34) (by simp [Value.oneCell']) (by omega) (by simp only [maxLen]; omega) (by omega)) rfl rfl rfl ?_
   rintro v w4 ⟨A35, c35, rfl, ho35, hg35, ha35⟩
   have hq35 := fun g e => Own.lt hoB (g := g) e
   have hz_hg35 := hg35.size
   replace hb_gx := hb_gx.gr hg35 (by first | (intro e; have := hq35 _ e; omega) | exact own_blk_ne hoB hb_gx (by decide))
   replace hK := Kp.tr hK (Kp.of_gr hg35) (by intro x hx; have := hq35 x (Option.mem_toList.1 hx); right; omega)
   replace hb_gr := hb_gr.gr hg35 (by first | (intro e; have := hq35 _ e; omega) | exact own_blk_ne hoB hb_gr (by decide))
   replace hr25 := hr25.gr hg35 (fun g e => by have := hq35 g e; omega)
   have hq_ho35 := fun g e => Own.lt ho35 (g := g) e
   refine vm rfl rfl ?_
   refine ve rfl rfl rfl ?_
   refine wl_spell (d := 37) rfl (v' := (.bool (decide (uF l (i + 1) = true)))) (by rw [uF_succ h16]; unfold nK nE; rw [Value.bool.injEq, decide_eq_decide, decide_eq_true_eq]; omega) ?_
   refine vn rfl rfl ?_
   refine wl_val (ov_field0 (off := 5) fo43_5 rfl) rfl rfl rfl ?_
   refine wl_step0 (or_storeAt (cs' := [(.int .i64 x.op), (.int .i64 x.err), (.slice X x.items.length cx), (.int .u64 (↑x.ver : Int)), (.int .i64 x.count), (.slice A35 (i + 1) c35)]) sz41 rfl rfl rfl hb_gx rfl rfl) rfl rfl ?_
   rintro _ w5 ⟨hN5, hg5⟩
   have hz_hg5 := hg5.size
   replace hK := Kp.tg hK hg5 (by first | (left; simp; done) | (right; omega))
   replace hb_gr := hb_gr.gr hg5 (by intro e; cases e; omega)
   replace hr25 := hr25.gr hg5 (fun _ e => by cases e; omega)
   replace ho35 := Own.gr ho35 hg5 (by first | exact .inl rfl | (right; intro e; first | (have := hq_ho35 _ e; omega) | (have := Own.lt ho35 e; omega) | exact own_blk_ne ho35 hb_gx (by decide) e))
   replace hb_gx := hN5
   refine va rfl rfl ?_
   refine q_nil (k_block (k_then (wc_regionL ?_)))
   refine vm rfl rfl ?_
   refine wl_val (ov_add rfl rfl (wu64 (by omega) (by omega))) rfl rfl rfl ?_
   refine va rfl rfl ?_
   refine q_nil ?_
   refine k_loop ((i + 1, A35, c35)) (by show nV l - (i + 1) < nV l - i; omega) (⟨rfl, rfl, rfl, rfl, rfl, trivial⟩) (⟨by show i + 1 ≤ _; omega, ⟨A25, c25, hb_gr, hr25⟩, by show Blk _ gx _ (rspc _ X cx A35 c35); unfold rspc; rw [(uS_len (nR l) (i + 1)).1]; exact hb_gx, by show Own _ _ _ _ _ _ _ ((uS (i + 1) (nR l)).1.flatMap nuc); rw [show (uS (i + 1) (nR l)).1 = (uS i (nR l)).1 ++ [nV (uS i (nR l)).2.1] from rfl, List.flatMap_append]; exact ho35, hK⟩)
  ·have hin : i = nV l := by omega
   subst hin
   refine q_exit (k_thenX (k_thenX (k_blockE (k_then (wc_seq (wc_regionL ?_))))))
   refine vm rfl rfl ?_
   refine va rfl rfl ?_
   refine q_nil (k_then (q_ret ?_))
   refine e_ret rfl rfl ?_
   exact ⟨by simp [h16], hK, fun _ => ⟨Ni, di, by unfold rspc; rw [hul.1]; exact hb_gx, hoB, Ai, ci, hb_gr, hri⟩⟩
 ·have hfn : uF l (nV l) = false := uF_mono hi0 (by simpa using h16)
  iterate 3 refine wl_gskip rfl rfl rfl rfl rfl rfl ?_
  refine wl_val (ov_pick_f rfl rfl) rfl rfl rfl ?_
  refine q_nil (k_then ?_)
  refine wc_cond_f rfl ?_
  refine q_exit (k_thenX (k_thenX (k_blockE (k_then (wc_seq (wc_regionL ?_))))))
  refine vm rfl rfl ?_
  refine va rfl rfl ?_
  refine q_nil (k_then (q_ret ?_))
  refine e_ret rfl rfl ?_
  exact ⟨by rw [hfn]; simp [h16], hK, fun h => by rw [hfn] at h; cases h⟩
end Go.Proofs.YtiighkbehiddkaaGreat