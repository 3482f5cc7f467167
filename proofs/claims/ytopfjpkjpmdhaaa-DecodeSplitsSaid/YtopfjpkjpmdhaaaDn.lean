/-
  Bytes that come in pieces: what is taken of them; the contract of taking.
-/
import Derived.Test.YtopfjpkjpmdhaaaDi
namespace Go.Proofs.Ytopfjpkjpmdhaaa
open Go.RowKit
set_option linter.unusedVariables false
set_option maxRecDepth 4000
theorem oc64 : oneCellTy Try.prog 64 = true := by kernel_rfl
theorem oc68 : oneCellTy Try.prog 68 = true := by kernel_rfl
theorem sz64 : (Try.prog.info? 64).map (·.size) = some 1 := by kernel_rfl

theorem vgetF_app (r : List UInt8) : ∀ (l : List UInt8) (i acc : Nat), (vgetF i acc l).2.2 ≠ 4 → vgetF i acc (l ++ r) = vgetF i acc l
  | [], i, acc, h => absurd rfl h
  | c :: cs, i, acc, h => by
    rw [List.cons_append, vgetF, vgetF]
    rw [vgetF] at h
    split
    · rfl
    · next h1 =>
      rw [if_neg h1] at h
      split
      · rfl
      · next h2 =>
        rw [if_neg h2] at h
        exact vgetF_app r cs _ _ h
theorem vget_app {l : List UInt8} (r : List UInt8) (h : (vget l).2.2 ≠ 4) : vget (l ++ r) = vget l := vgetF_app r l 0 0 h
/-- What follows a frame, or an error, does not turn it. -/
theorem fread_app {l : List UInt8} {m : Nat} (hm : m ≤ 2097152) (r : List UInt8) (h : (fread l (m : Int)).2.2 ≠ 4) : fread (l ++ r) (m : Int) = fread l (m : Int) := by
  have h0 : (0 : Int) ≤ (m : Int) ∧ (m : Int) ≤ 2097152 := by omega
  have hs := vget_size l
  by_cases h1 : (vget l).2.2 = 4
  · rw [fread_short0 h0 h1] at h; exact absurd rfl h
  · have hv := vget_app r h1
    by_cases h2 : (vget l).2.2 ≠ 0 ∨ (m : Int) + 1 < ((vget l).1 : Int)
    · rw [fread_long h0 h1 h2, fread_long h0 (by rw [hv]; exact h1) (by rw [hv]; exact h2)]
    · have h3 : (vget l).2.2 = 0 := by omega
      have h4 : ¬ (m : Int) + 1 < ((vget l).1 : Int) := fun h => h2 (.inr h)
      by_cases h5 : (vget l).1 = 0
      · rw [fread_fmt h0 h3 h5, fread_fmt h0 (by rw [hv]; exact h3) (by rw [hv]; exact h5)]
      · by_cases h6 : l.length - (vget l).2.1 < (vget l).1
        · rw [fread_short h0 h3 h4 h5 h6] at h; exact absurd rfl h
        · rw [fread_ok h0 h3 h4 h5 h6, fread_ok h0 (by rw [hv]; exact h3) (by rw [hv]; exact h4) (by rw [hv]; exact h5) (by rw [hv, List.length_append]; omega), hv]
          have e1 : (l ++ r).getD (vget l).2.1 0 = l.getD (vget l).2.1 0 := by
            rw [List.getD_eq_getElem?_getD, List.getD_eq_getElem?_getD, List.getElem?_append_left (by omega)]
          have e2 : ((l ++ r).drop ((vget l).2.1 + 1)).take ((vget l).1 - 1) = (l.drop ((vget l).2.1 + 1)).take ((vget l).1 - 1) := by
            rw [List.drop_append_of_le_length (by omega), List.take_append_of_le_length (by rw [List.length_drop]; omega)]
          rw [e1, e2]
theorem dall_t (m : Nat) (l : List UInt8) : dall m true l = [] := dall_end (.inr rfl)
theorem dfeed_n0 (cl : Bool) (l : List UInt8) : dfeed cl l [] = l := by unfold dfeed; split <;> simp
theorem dfeed_feed (cl : Bool) (l q r : List UInt8) : dfeed cl (dfeed cl l q) r = dfeed cl l (q ++ r) := by
  cases cl with
  | true => rfl
  | false => exact List.append_assoc l q r
theorem dnext_stay {m : Nat} (hm : m ≤ 2097152) {cl : Bool} {l : List UInt8} (h : (dnext m cl l).2.2.2 = 4 ∨ (dnext m cl l).2.2.2 = 14) : (dnext m cl l).1 = cl ∧ (dnext m cl l).2.1 = l := by
  cases cl with
  | true => exact ⟨rfl, rfl⟩
  | false =>
    have hp := fread_props l (m : Int)
    rcases fread_cases l hm with ⟨h1, h2⟩ | ⟨h1, _, h3, _⟩ | ⟨h1, _, _, h4⟩ | ⟨h1, _, _, h4⟩
    · rw [dnext_o (by omega) (by omega)] at h; simp only at h; omega
    · rw [dnext_o (by omega) (by omega), h3]; exact ⟨rfl, rfl⟩
    · rw [dnext_5 h1] at h; simp only at h; omega
    · rw [dnext_6 h1] at h; simp only at h; omega
/-- What comes next does not hang on what is fed behind it. -/
theorem dall_feed {m : Nat} (hm : m ≤ 2097152) {cl : Bool} {l : List UInt8} (h : ¬ ((dnext m cl l).2.2.2 = 4 ∨ (dnext m cl l).2.2.2 = 14)) (r : List UInt8) :
    dall m cl (dfeed cl l r) = ((dnext m cl l).2.2.1, (dnext m cl l).2.2.2) :: dall m (dnext m cl l).1 (dfeed (dnext m cl l).1 (dnext m cl l).2.1 r) := by
  cases cl with
  | true => exact absurd (.inr rfl) h
  | false =>
    have hp := fread_props l (m : Int)
    have h4 : (fread l (m : Int)).2.2 ≠ 4 := fun e => h (.inl (by rw [dnext_o (by omega) (by omega)]; exact e))
    have ha := fread_app hm r h4
    show dall m false (l ++ r) = _
    have key : dnext m false (l ++ r) = ((dnext m false l).1, dfeed (dnext m false l).1 (dnext m false l).2.1 r, (dnext m false l).2.2) ∨ ((dnext m false l).1 = true ∧ (dnext m false (l ++ r)).1 = true ∧ (dnext m false (l ++ r)).2.2 = (dnext m false l).2.2) := by
      by_cases h6 : (fread l (m : Int)).2.2 = 6
      · have h1 : 1 ≤ l.length := by rcases fread_cases l hm with ⟨k, _⟩ | ⟨k, _⟩ | ⟨k, _⟩ | ⟨k, _, _, k4⟩ <;> omega
        left
        rw [dnext_6 h6, dnext_6 (by rw [ha]; exact h6), ha]
        simp only [dfeed, Bool.false_eq_true, if_false]
        rw [List.drop_append_of_le_length h1]
      · by_cases h5 : (fread l (m : Int)).2.2 = 5
        · right
          rw [dnext_5 h5, dnext_5 (by rw [ha]; exact h5), ha]
          exact ⟨rfl, rfl, rfl⟩
        · left
          rw [dnext_o h6 h5, dnext_o (by rw [ha]; exact h6) (by rw [ha]; exact h5), ha]
          simp only [dfeed, Bool.false_eq_true, if_false]
          rw [List.drop_append_of_le_length hp.2.1]
    rcases key with key | ⟨k1, k2, k3⟩
    · rw [dall_cons hm (by rw [key]; exact h), key]
    · rw [dall_cons hm (by rw [k3]; exact h), k3, k1, k2, dall_t, dall_t]
theorem blk_ne {w : World} {g g2 : Nat} {t t2 : TypeId} {cs cs2 : List Value} (h : Blk w g t cs) (k : Blk w g2 t2 cs2) (ht : t ≠ t2) : g ≠ g2 := by
  rintro rfl
  have := h.symm.trans k
  simp only [Option.some.injEq, Obj.cells.injEq] at this
  exact ht this.2.1
theorem Rd.back {w w' : World} {lo hi size n c : Nat} {A : Option Addr} {xs : List Value} (h : Rd w' lo hi size A n c xs) (he : Ext w w') (hhi : hi ≤ w.heap.size) : Rd w lo hi size A n c xs :=
  h.keep fun p h1 h2 h3 => (World.cell?_of_block (he.block p.block (by omega) (by simp))).symm
section
variable {w w' : World} {lo g m : Nat} {D : Option Nat} {cl : Bool} {l : List UInt8}
theorem Dec.neBlk {z : Nat} {t : TypeId} {cs : List Value} (h : Dec w lo g D m cl l) (hb : Blk w z t cs) (h1 : t ≠ 91) (h2 : 5 ≠ t) : z ≠ g ∧ D ≠ some z := by
  obtain ⟨A, c, rfl, hb2, ho, r⟩ := h
  exact ⟨blk_ne hb hb2 h1, ho.ne hb h2⟩
theorem Dec.neRow {b n c size : Nat} {e : TypeId} {A : Option Addr} {xs : List Value} (h : Dec w lo g D m cl l) (ho : Own w b e size A n c xs) (h1 : e ≠ 91) (h2 : 5 ≠ e) : ∀ x, blk A = some x → x ≠ g ∧ D ≠ some x := by
  intro x hx
  rcases ho.2 with ⟨hv, _⟩ | ⟨g', cap, cur, hv, _, hh, _⟩
  · simp only [Value.slice.injEq] at hv
    obtain ⟨rfl, _⟩ := hv
    cases hx
  · simp only [Value.slice.injEq] at hv
    obtain ⟨rfl, _, _⟩ := hv
    cases hx
    exact h.neBlk (z := g') (t := e) (cs := cur.toList) (by simpa [Blk] using hh) h1 h2
theorem Dec.neGot {b : Nat} {ys : List Got} (h : Dec w lo g D m cl l) (hf : FL w b ys) : ∀ y ∈ ys, ∀ x, blk y.1.2.1 = some x → x ≠ g := by
  intro y hy x hx e
  subst e
  obtain ⟨A, c, rfl, hb2, ho, r⟩ := h
  exact own_blk_ne (hf y hy) hb2 (by decide) hx
theorem FL.chs {b : Nat} {ys : List Got} (h : FL w b ys) (k : Ch g D w w') (hs : ∀ y ∈ ys, ∀ x, blk y.1.2.1 = some x → x ≠ g ∧ D ≠ some x) : FL w' b ys := fun y hy => k.own (h y hy) (hs y hy)
end
/-- What is collected: the decoder, the frames, the errors. -/
structure Col (w : World) (b g11 g12 gd : Nat) (D : Option Nat) (m : Nat) (cl : Bool) (l : List UInt8) (A : Option Addr) (c : Nat) (B : Option Addr) (d : Nat) (ys : List Got) : Prop where
  hdec : Dec w b gd D m cl l
  hb11 : Blk w g11 60 [.slice A ys.length c]
  hoA : Own w b 72 2 A ys.length c (ys.flatMap gotc)
  hb12 : Blk w g12 64 [.slice B ys.length d]
  hoB : Own w b 3 1 B ys.length d (ys.map gote)
  hFL : FL w b ys
  hsep : ∀ y ∈ ys, ∀ x, blk y.1.2.1 = some x → D ≠ some x
section
variable {w w' : World} {b g11 g12 gd m c d : Nat} {D D' : Option Nat} {cl : Bool} {l l' : List UInt8} {A B : Option Addr} {ys : List Got}
theorem Col.ext (h : Col w b g11 g12 gd D m cl l A c B d ys) (he : Ext w w') : Col w' b g11 g12 gd D m cl l A c B d ys :=
  ⟨h.hdec.ext he, h.hb11.ext he, Own.ext h.hoA he, h.hb12.ext he, Own.ext h.hoB he, h.hFL.ext he, h.hsep⟩
theorem Col.feed (h : Col w b g11 g12 gd D m cl l A c B d ys) (hb : Dec w' b gd D' m cl l') (hN : Nx w D D') (hC : Ch gd D w w') : Col w' b g11 g12 gd D' m cl l' A c B d ys :=
  ⟨hb, hC.bk h.hb11 (h.hdec.neBlk h.hb11 (by decide) (by decide)).1 (h.hdec.neBlk h.hb11 (by decide) (by decide)).2, hC.own h.hoA (h.hdec.neRow h.hoA (by decide) (by decide)),
   hC.bk h.hb12 (h.hdec.neBlk h.hb12 (by decide) (by decide)).1 (h.hdec.neBlk h.hb12 (by decide) (by decide)).2, hC.own h.hoB (h.hdec.neRow h.hoB (by decide) (by decide)),
   h.hFL.chs hC (fun y hy x e => ⟨h.hdec.neGot h.hFL y hy x e, h.hsep y hy x e⟩),
   fun y hy x e e2 => (hN x e2).elim (h.hsep y hy x e) (fun h3 => by have := Own.lt (h.hFL y hy) e; omega)⟩
end

theorem take06_ok (w w0 : World) (g9 g11 g12 gd : Nat) (D : Option Nat) (m : Nat) (hm : m ≤ 2097152) (cl : Bool) (l : List UInt8) (hl40 : l.length ≤ 1099511627776) (A : Option Addr) (c : Nat) (B : Option Addr) (d : Nat) (ys : List Got) (hys : ys.length ≤ 1099511627776) (hcol : Col w w0.heap.size g11 g12 gd D m cl l A c B d ys) (hb_g9 : Blk w g9 68 [.pointer (some ⟨gd, 0, none⟩)]) (hE : Ext w0 w) (h11 : w0.heap.size ≤ g11) (h12 : w0.heap.size ≤ g12) (hgd : w0.heap.size ≤ gd) :
    Fn Try.prog 36 #[(.pointer (some ⟨g9, 0, none⟩)), (.pointer (some ⟨g11, 0, none⟩)), (.pointer (some ⟨g12, 0, none⟩))] w (fun v w' => ∃ bb cl' l' A' c' B' d' ys', v = .bool bb ∧ Col w' w0.heap.size g11 g12 gd D m cl' l' A' c' B' d' ys' ∧ (∀ r, ys'.map gotv ++ dall m cl' (dfeed cl' l' r) = ys.map gotv ++ dall m cl (dfeed cl l r)) ∧ List.length l' ≤ l.length ∧ ((bb = true ∧ dmeas cl' l' < dmeas cl l) ∨ (bb = false ∧ dall m cl' l' = [])) ∧ Blk w' g9 68 [.pointer (some ⟨gd, 0, none⟩)] ∧ Ext w0 w')  := by
  obtain ⟨hdec, hb_g11, hoA, hb_g12, hoB, hFL, hsep⟩ := hcol
  have h9d := hdec.neBlk hb_g9 (by decide) (by decide)
  have h11d := hdec.neBlk hb_g11 (by decide) (by decide)
  have h12d := hdec.neBlk hb_g12 (by decide) (by decide)
  have h911 := blk_ne hb_g9 hb_g11 (by decide)
  have h912 := blk_ne hb_g9 hb_g12 (by decide)
  have h1112 := blk_ne hb_g11 hb_g12 (by decide)
  have hDs : ∀ x, D = some x → x ≠ g9 ∧ x ≠ g11 ∧ x ≠ g12 ∧ w0.heap.size ≤ x ∧ x < w.heap.size := fun x e => ⟨fun h => h9d.2 (h ▸ e), fun h => h11d.2 (h ▸ e), fun h => h12d.2 (h ▸ e), hdec.lt.2 x e⟩
  have hsA := hdec.neRow hoA (by decide) (by decide)
  have hsB := hdec.neRow hoB (by decide) (by decide)
  have hsF : ∀ y ∈ ys, ∀ x, blk y.1.2.1 = some x → x ≠ gd ∧ D ≠ some x := fun y hy x e => ⟨hdec.neGot hFL y hy x e, hsep y hy x e⟩
  have hq_hoA := fun g e => Own.lt hoA (g := g) e
  have hq_hoB := fun g e => Own.lt hoB (g := g) e
  have hzb := hdec.lt.1
  have hz0 := hE.size
  have hg9l := hb_g9.lt
  have hg11l := hb_g11.lt
  have hg12l := hb_g12.lt
  have hds := dnext_short m cl l
  have hdec_lt : ∀ x, D = some x → x < w.heap.size := fun x e => (hdec.lt.2 x e).2
  refine fn_enter (args := [(.pointer (some ⟨g9, 0, none⟩)), (.pointer (some ⟨g11, 0, none⟩)), (.pointer (some ⟨g12, 0, none⟩))]) Try.func36 rfl rfl rfl ?_
  show WC _ _ _ _ [(0, (.pointer (some ⟨g9, 0, none⟩))), (1, (.pointer (some ⟨g11, 0, none⟩))), (2, (.pointer (some ⟨g12, 0, none⟩)))] _
  refine wc_seq ?_
  refine wc_regionL ?_
  refine wl_val (ov_assign rfl) rfl rfl rfl ?_
  refine q_nil ?_
  refine k_then ?_
  refine wc_seq ?_
  refine wc_regionL ?_
  refine wl_val (ov_loadAt oc68 rfl hb_g9 rfl) rfl rfl rfl ?_
  refine wl_step (or_call0 cl37 rfl rfl (dnext_ok _ w0.heap.size gd D m cl l hdec (by first | omega | (simp; done)))) rfl rfl rfl ?_
  rintro v w1 ⟨A8, c8, rfl, ho8, hb8, hC8⟩
  have hDa8 : ∀ x, D = some x → (x ≠ g9 ∧ x ≠ g11 ∧ x ≠ g12 ∧ w0.heap.size ≤ x ∧ x < w.heap.size) ∧ x < w.heap.size := fun x e => ⟨hDs x e, (hdec.lt.2 x e).2⟩
  have hz_hC8 := hC8.size
  replace hb_g9 := hC8.bk hb_g9 (by omega) (fun e2 => by have := hDa8 _ e2; omega)
  replace hb_g11 := hC8.bk hb_g11 (by omega) (fun e2 => by have := hDa8 _ e2; omega)
  replace hoA := hC8.own hoA (fun x e => by first | exact ⟨by have := hq_hoA x e; omega, fun e2 => by have h1 := hq_hoA x e; have h2 := hDa8 x e2; omega⟩ | exact hsA x e)
  replace hb_g12 := hC8.bk hb_g12 (by omega) (fun e2 => by have := hDa8 _ e2; omega)
  replace hoB := hC8.own hoB (fun x e => by first | exact ⟨by have := hq_hoB x e; omega, fun e2 => by have h1 := hq_hoB x e; have h2 := hDa8 x e2; omega⟩ | exact hsB x e)
  replace hFL := FL.chs hFL hC8 hsF
  replace hE := hC8.e0 hE (by omega) (fun x e => by have := hDa8 x e; omega)
  have hzb8 := hb8.lt.1
  have hcp8 := hb8.cap
  have hq_ho8 := fun g e => Own.lt ho8 (g := g) e
  refine wl_val (ov_move rfl) rfl rfl rfl ?_
  refine wl_val (ov_extract rfl rfl) rfl rfl rfl ?_
  refine wl_val (ov_extract rfl rfl) rfl rfl rfl ?_
  refine wl_step (or_alloc (cs := [(.int .u8 0), (.slice none 0 0)]) ze72 rfl) rfl rfl rfl ?_
  rintro v w2 ⟨g4, rfl, hb_g4, he4, hl4, hu4⟩
  replace hb_g9 := hb_g9.ext he4
  replace hb_g11 := hb_g11.ext he4
  replace hoA := Own.ext hoA he4
  replace hb_g12 := hb_g12.ext he4
  replace hoB := Own.ext hoB he4
  replace hFL := FL.ext hFL he4
  replace hE := hE.tr he4
  replace hb8 := hb8.ext he4
  replace ho8 := Own.ext ho8 he4
  have hz_he4 := he4.size
  refine wl_step0 (or_storeBlk (vs := [(.int .u8 (↑(dnext m cl l).2.2.1.1.toNat : Int)), (.slice A8 (dnext m cl l).2.2.1.2.length c8)]) sz72 rfl rfl (by simp [Value.oneCell']) hb_g4 rfl) rfl rfl ?_
  rintro _ w3 ⟨hN3, hg3⟩
  have hz_hg3 := hg3.size
  replace hb_g9 := hb_g9.gr hg3 (by intro e; cases e; omega)
  replace hb_g11 := hb_g11.gr hg3 (by intro e; cases e; omega)
  replace hoA := Own.gr hoA hg3 (by first | exact .inl rfl | (right; intro e; first | (have := hq_hoA _ e; omega) | (have := Own.lt hoA e; omega) | exact own_blk_ne hoA hb_g4 (by decide) e))
  replace hb_g12 := hb_g12.gr hg3 (by intro e; cases e; omega)
  replace hoB := Own.gr hoB hg3 (by first | exact .inl rfl | (right; intro e; first | (have := hq_hoB _ e; omega) | (have := Own.lt hoB e; omega) | exact own_blk_ne hoB hb_g4 (by decide) e))
  replace hFL := FL.gr hFL hg3 hb_g4 (by decide)
  replace hE := hE.gr hg3 (fun _ e => by cases e; omega)
  replace hb8 := hb8.gr hg3 (fun x e => by cases e; omega) (fun x e e2 => by cases e; have := hDs _ e2; omega)
  replace ho8 := Own.gr ho8 hg3 (by first | exact .inl rfl | (right; intro e; first | (have := hq_ho8 _ e; omega) | (have := Own.lt ho8 e; omega) | exact own_blk_ne ho8 hb_g4 (by decide) e))
  replace hb_g4 := hN3
  refine wl_val (ov_assign rfl) rfl rfl rfl ?_
  refine q_nil ?_
  refine k_then ?_
  refine wc_seq ?_
  refine wc_seq ?_
  refine wc_regionL ?_
  refine wl_val (ov_move rfl) rfl rfl rfl ?_
  refine wl_val (ov_eql rfl rfl) rfl rfl rfl ?_
  refine wl_case_d (d := 12) rfl (fun h12 => ?_) (fun h12 => ?_)
  · refine wl_val (ov_move rfl) rfl rfl rfl ?_
    refine wl_gskip rfl rfl rfl rfl rfl rfl ?_
    refine wl_gskip rfl rfl rfl rfl rfl rfl ?_
    refine wl_val (ov_pick_t rfl rfl) rfl rfl rfl ?_
    refine q_nil ?_
    refine k_then ?_
    refine wc_cond_t rfl ?_
    refine wc_seq ?_
    refine wc_regionL ?_
    refine wl_val (ov_assign rfl) rfl rfl rfl ?_
    refine q_nil ?_
    refine k_then ?_
    refine q_ret ?_
    refine k_thenR ?_
    refine e_ret rfl rfl ?_
    have hst := dnext_stay hm (show (dnext m cl l).2.2.2 = 4 ∨ (dnext m cl l).2.2.2 = 14 by omega)
    refine ⟨false, (dnext m cl l).1, (dnext m cl l).2.1, A, c, B, d, ys, rfl, ⟨hb8, hb_g11, hoA, hb_g12, hoB, hFL, hsep⟩, fun r => by rw [hst.1, hst.2], hds, .inr ⟨rfl, ?_⟩, hb_g9, hE⟩
    rw [hst.1, hst.2]; exact dall_end (by omega)
  · refine wl_val (ov_move rfl) rfl rfl rfl ?_
    refine wl_gval (ov_move rfl) rfl rfl rfl rfl rfl ?_
    refine wl_gval (ov_eql rfl rfl) rfl rfl rfl rfl rfl ?_
    refine wl_case_d (d := 15) rfl (fun h15 => ?_) (fun h15 => ?_)
    · refine wl_val (ov_pick_f rfl rfl) rfl rfl rfl ?_
      refine q_nil ?_
      refine k_then ?_
      refine wc_cond_t rfl ?_
      refine wc_seq ?_
      refine wc_regionL ?_
      refine wl_val (ov_assign rfl) rfl rfl rfl ?_
      refine q_nil ?_
      refine k_then ?_
      refine q_ret ?_
      refine k_thenR ?_
      refine e_ret rfl rfl ?_
      have hst := dnext_stay hm (show (dnext m cl l).2.2.2 = 4 ∨ (dnext m cl l).2.2.2 = 14 by omega)
      refine ⟨false, (dnext m cl l).1, (dnext m cl l).2.1, A, c, B, d, ys, rfl, ⟨hb8, hb_g11, hoA, hb_g12, hoB, hFL, hsep⟩, fun r => by rw [hst.1, hst.2], hds, .inr ⟨rfl, ?_⟩, hb_g9, hE⟩
      rw [hst.1, hst.2]; exact dall_end (by omega)
    · refine wl_val (ov_pick_f rfl rfl) rfl rfl rfl ?_
      refine q_nil ?_
      refine k_then ?_
      refine wc_cond_f rfl ?_
      refine q_skip ?_
      refine k_then ?_
      refine wc_seq ?_
      refine wc_drawA mixed ?_
      intro w204 hx4
      replace hb_g9 := hb_g9.ext hx4
      replace hb_g11 := hb_g11.ext hx4
      replace hoA := Own.ext hoA hx4
      replace hb_g12 := hb_g12.ext hx4
      replace hoB := Own.ext hoB hx4
      replace hFL := FL.ext hFL hx4
      replace hE := hE.tr hx4
      replace hb8 := hb8.ext hx4
      replace ho8 := Own.ext ho8 hx4
      replace hb_g4 := hb_g4.ext hx4
      have hz_hx4 := hx4.size
      refine wa_main (RT w0.heap.size) rt1 rt2 rt3 0 8 [(17, eqv (.slice A ys.length c)), (18, eqv (.agg #[(.int .u8 (↑(dnext m cl l).2.2.1.1.toNat : Int)), (.slice A8 (dnext m cl l).2.2.1.2.length c8)])), (19, (fun v w => ∃ g19, v = .slice (some ⟨g19, 0, none⟩) 1 1 ∧ Blk w g19 72 [.int .u8 ((dnext m cl l).2.2.1.1.toNat : Int), .slice A8 (dnext m cl l).2.2.1.2.length c8])), (20, (fun v w' => ∃ A20 c20, v = .slice A20 (ys.length + 1) c20 ∧ Own w' w0.heap.size 72 2 A20 (ys.length + 1) c20 (ys.flatMap gotc ++ [.int .u8 ((dnext m cl l).2.2.1.1.toNat : Int), .slice A8 (dnext m cl l).2.2.1.2.length c8]))), (21, eqv (.slice B ys.length d)), (22, eqv (.int .i64 (↑(dnext m cl l).2.2.2 : Int))), (23, (fun v w => ∃ g23, v = .slice (some ⟨g23, 0, none⟩) 1 1 ∧ Blk w g23 3 [.int .i64 ((dnext m cl l).2.2.2 : Int)])), (24, (fun v w' => ∃ A24 c24, v = .slice A24 (ys.length + 1) c24 ∧ Own w' w0.heap.size 3 1 A24 (ys.length + 1) c24 (ys.map gote ++ [.int .i64 ((dnext m cl l).2.2.2 : Int)])))] [[], [], [1], [0, 2], [], [], [5], [4, 6]] [[3, 72], [3, 72], [], [3], [3, 72], [3, 72], [72], [72]] [[], [], [], [], [72], [72], [72], [72]] [none, none, none, some 72, none, none, none, some 3] [true, true, false, true, true, true, false, true] [3, 72] _ [] [] (fun _ _ h => h) trivial (by kernel_rfl) rfl ⟨stbA (fun _ => stb_eqv _) _, stbA (fun _ => stb_eqv _) _, stb0 ((fun v w w' ⟨g, hv, hb⟩ he => ⟨g, hv, hb.ext he⟩)), ⟨fun v w w' ⟨A, c, hv, ho⟩ he => ⟨A, c, hv, Own.ext ho he⟩, fun e he => by simp at he; subst he; exact fun v w w' ⟨A, c, hv, ho⟩ k => ⟨A, c, hv, RT.own k ho (by decide)⟩⟩, stbA (fun _ => stb_eqv _) _, stbA (fun _ => stb_eqv _) _, ⟨fun v w w' ⟨g, hv, hb⟩ he => ⟨g, hv, hb.ext he⟩, fun e he => by simp at he; subst he; exact fun v w w' ⟨g, hv, hb⟩ k => ⟨g, hv, RT.bk k hb (by decide)⟩⟩, ⟨fun v w w' ⟨A, c, hv, ho⟩ he => ⟨A, c, hv, Own.ext ho he⟩, fun e he => by simp at he; subst he; exact fun v w w' ⟨A, c, hv, ho⟩ k => ⟨A, c, hv, RT.own k ho (by decide)⟩⟩, trivial⟩ ⟨?_, ?_, ?_, ?_, ?_, ?_, ?_, ?_, trivial⟩ ?_
      · intro wd hxE
        replace hxE : Ext _ _ := rt_nil hxE
        replace hb_g9 := hb_g9.ext hxE
        replace hb_g11 := hb_g11.ext hxE
        replace hoA := Own.ext hoA hxE
        replace hb_g12 := hb_g12.ext hxE
        replace hoB := Own.ext hoB hxE
        replace hFL := FL.ext hFL hxE
        replace hE := hE.tr hxE
        replace hb8 := hb8.ext hxE
        replace ho8 := Own.ext ho8 hxE
        replace hb_g4 := hb_g4.ext hxE
        have hz_hxE := hxE.size
        show OpG _ _ _ _ _ _
        exact og_plain rfl (ox_val (ov_loadAt oc60 rfl hb_g11 rfl))
      · intro wd hxE
        replace hxE : Ext _ _ := rt_nil hxE
        replace hb_g9 := hb_g9.ext hxE
        replace hb_g11 := hb_g11.ext hxE
        replace hoA := Own.ext hoA hxE
        replace hb_g12 := hb_g12.ext hxE
        replace hoB := Own.ext hoB hxE
        replace hFL := FL.ext hFL hxE
        replace hE := hE.tr hxE
        replace hb8 := hb8.ext hxE
        replace ho8 := Own.ext ho8 hxE
        replace hb_g4 := hb_g4.ext hxE
        have hz_hxE := hxE.size
        show OpG _ _ _ _ _ _
        exact og_plain rfl (ox_val (ov_loadBlk (cs := [(.int .u8 (↑(dnext m cl l).2.2.1.1.toNat : Int)), (.slice A8 (dnext m cl l).2.2.1.2.length c8)]) ag72_2 rfl hb_g4))
      · intro wd hxE
        replace hxE : Ext _ _ := rt_nil hxE
        replace hb_g9 := hb_g9.ext hxE
        replace hb_g11 := hb_g11.ext hxE
        replace hoA := Own.ext hoA hxE
        replace hb_g12 := hb_g12.ext hxE
        replace hoB := Own.ext hoB hxE
        replace hFL := FL.ext hFL hxE
        replace hE := hE.tr hxE
        replace hb8 := hb8.ext hxE
        replace ho8 := Own.ext ho8 hxE
        replace hb_g4 := hb_g4.ext hxE
        have hz_hxE := hxE.size
        rintro _ rfl
        show OpG _ _ _ _ _ _
        refine og_plain rfl (OpRun.mono (or_buildSliceF (cs := [.int .u8 ((dnext m cl l).2.2.1.1.toNat : Int), .slice A8 (dnext m cl l).2.2.1.2.length c8]) sl60 rfl (by kernel_rfl) (by decide) (by decide)) ?_)
        rintro v w205 ⟨g19, rfl, hb_g19, he19, hl19, hu19⟩
        replace hb_g9 := hb_g9.ext he19
        replace hb_g11 := hb_g11.ext he19
        replace hoA := Own.ext hoA he19
        replace hb_g12 := hb_g12.ext he19
        replace hoB := Own.ext hoB he19
        replace hFL := FL.ext hFL he19
        replace hE := hE.tr he19
        replace hb8 := hb8.ext he19
        replace ho8 := Own.ext ho8 he19
        replace hb_g4 := hb_g4.ext he19
        have hz_he19 := he19.size
        exact ⟨⟨g19, rfl, hb_g19⟩, he19⟩
      · intro wd hxE
        replace hxE : Ext _ _ := rt_nil hxE
        replace hb_g9 := hb_g9.ext hxE
        replace hb_g11 := hb_g11.ext hxE
        replace hoA := Own.ext hoA hxE
        replace hb_g12 := hb_g12.ext hxE
        replace hoB := Own.ext hoB hxE
        replace hFL := FL.ext hFL hxE
        replace hE := hE.tr hxE
        replace hb8 := hb8.ext hxE
        replace ho8 := Own.ext ho8 hxE
        replace hb_g4 := hb_g4.ext hxE
        have hz_hxE := hxE.size
        rintro _ rfl
        rintro _ ⟨g19, rfl, hb_g19⟩
        show OpG _ _ _ _ _ _
        refine og_plain rfl (OpRun.mono (or_append sl60 rfl hoA rfl (Blk.rdF hb_g19 rfl (by decide)) (by simp [Value.oneCell']) (by omega) (by simp only [maxLen]; omega) (by omega)) ?_)
        rintro v w205 ⟨A20, c20, rfl, ho20, hg20, ha20⟩
        exact ⟨⟨A20, c20, rfl, ho20⟩, rt_row hg20 hoA (Nat.le_refl _)⟩
      · intro wd hxE
        have hz_hxE := hxE.size
        replace hb_g9 := hxE.bk hb_g9 (by decide)
        replace hb_g11 := hxE.bk hb_g11 (by decide)
        replace hb_g12 := hxE.bk hb_g12 (by decide)
        replace hoB := hxE.own hoB (by decide)
        replace hFL := FL.rt hFL hxE (by decide)
        replace hE := hxE.e0 hE (by omega)
        replace hb8 := hb8.rt hxE (by decide) (by decide)
        replace ho8 := hxE.own ho8 (by decide)
        show OpG _ _ _ _ _ _
        exact og_plain rfl (ox_val (ov_loadAt oc64 rfl hb_g12 rfl))
      · intro wd hxE
        have hz_hxE := hxE.size
        replace hb_g9 := hxE.bk hb_g9 (by decide)
        replace hb_g11 := hxE.bk hb_g11 (by decide)
        replace hb_g12 := hxE.bk hb_g12 (by decide)
        replace hoB := hxE.own hoB (by decide)
        replace hFL := FL.rt hFL hxE (by decide)
        replace hE := hxE.e0 hE (by omega)
        replace hb8 := hb8.rt hxE (by decide) (by decide)
        replace ho8 := hxE.own ho8 (by decide)
        show OpG _ _ _ _ _ _
        exact og_plain rfl (ox_val (ov_move rfl))
      · intro wd hxE
        have hz_hxE := hxE.size
        replace hb_g9 := hxE.bk hb_g9 (by decide)
        replace hb_g11 := hxE.bk hb_g11 (by decide)
        replace hb_g12 := hxE.bk hb_g12 (by decide)
        replace hoB := hxE.own hoB (by decide)
        replace hFL := FL.rt hFL hxE (by decide)
        replace hE := hxE.e0 hE (by omega)
        replace hb8 := hb8.rt hxE (by decide) (by decide)
        replace ho8 := hxE.own ho8 (by decide)
        rintro _ rfl
        show OpG _ _ _ _ _ _
        refine og_plain rfl (OpRun.mono (or_buildSlice1 (os := [.tmp 22]) sl64 rfl rfl rfl (by simp [Value.oneCell']) (by decide)) ?_)
        rintro v w205 ⟨g23, rfl, hb_g23, he23, hl23, hu23, _⟩
        replace hb_g9 := hb_g9.ext he23
        replace hb_g11 := hb_g11.ext he23
        replace hb_g12 := hb_g12.ext he23
        replace hoB := Own.ext hoB he23
        replace hFL := FL.ext hFL he23
        replace hE := hE.tr he23
        replace hb8 := hb8.ext he23
        replace ho8 := Own.ext ho8 he23
        have hz_he23 := he23.size
        exact ⟨⟨g23, rfl, hb_g23⟩, he23⟩
      · intro wd hxE
        have hz_hxE := hxE.size
        replace hb_g9 := hxE.bk hb_g9 (by decide)
        replace hb_g11 := hxE.bk hb_g11 (by decide)
        replace hb_g12 := hxE.bk hb_g12 (by decide)
        replace hoB := hxE.own hoB (by decide)
        replace hFL := FL.rt hFL hxE (by decide)
        replace hE := hxE.e0 hE (by omega)
        replace hb8 := hb8.rt hxE (by decide) (by decide)
        replace ho8 := hxE.own ho8 (by decide)
        rintro _ rfl
        rintro _ ⟨g23, rfl, hb_g23⟩
        show OpG _ _ _ _ _ _
        refine og_plain rfl (OpRun.mono (or_append sl64 rfl hoB rfl (Blk.rd1 hb_g23) (by simp [Value.oneCell']) (by omega) (by simp only [maxLen]; omega) (by omega)) ?_)
        rintro v w205 ⟨A24, c24, rfl, ho24, hg24, ha24⟩
        exact ⟨⟨A24, c24, rfl, ho24⟩, rt_row hg24 hoB (Nat.le_refl _)⟩
      · intro wf4 hf4
        have hz_hf4 := hf4.size
        replace hb_g9 := hf4.bk hb_g9 (by decide)
        replace hb_g11 := hf4.bk hb_g11 (by decide)
        replace hb_g12 := hf4.bk hb_g12 (by decide)
        replace hFL := FL.rt hFL hf4 (by decide)
        replace hE := hf4.e0 hE (by omega)
        replace hb8 := hb8.rt hf4 (by decide) (by decide)
        replace ho8 := hf4.own ho8 (by decide)
        rintro _ rfl
        rintro _ rfl
        intro v19
        rintro _ ⟨A20, c20, rfl, ho20⟩
        rintro _ rfl
        rintro _ rfl
        intro v23
        rintro _ ⟨A24, c24, rfl, ho24⟩
        have hq_ho20 := fun g e => Own.lt ho20 (g := g) e
        have hq_ho24 := fun g e => Own.lt ho24 (g := g) e
        refine wa_tail (by kernel_rfl) ?_
        show WL _ _ _ [_, _] _ _ _
        refine wl_step0 (or_storeAt (cs' := [(.slice A20 (ys.length + 1) c20)]) sz60 rfl rfl rfl hb_g11 rfl rfl) rfl rfl ?_
        rintro _ w205 ⟨hN205, hg205⟩
        have hz_hg205 := hg205.size
        replace hb_g9 := hb_g9.gr hg205 (by intro e; cases e; omega)
        replace hb_g12 := hb_g12.gr hg205 (by intro e; cases e; omega)
        replace hFL := FL.gr hFL hg205 hb_g11 (by decide)
        replace hE := hE.gr hg205 (fun _ e => by cases e; omega)
        replace hb8 := hb8.gr hg205 (fun x e => by cases e; omega) (fun x e e2 => by cases e; have := hDs _ e2; omega)
        replace ho8 := Own.gr ho8 hg205 (by first | exact .inl rfl | (right; intro e; first | (have := hq_ho8 _ e; omega) | (have := Own.lt ho8 e; omega) | exact own_blk_ne ho8 hb_g11 (by decide) e))
        replace ho20 := Own.gr ho20 hg205 (by first | exact .inl rfl | (right; intro e; first | (have := hq_ho20 _ e; omega) | (have := Own.lt ho20 e; omega) | exact own_blk_ne ho20 hb_g11 (by decide) e))
        replace ho24 := Own.gr ho24 hg205 (by first | exact .inl rfl | (right; intro e; first | (have := hq_ho24 _ e; omega) | (have := Own.lt ho24 e; omega) | exact own_blk_ne ho24 hb_g11 (by decide) e))
        replace hb_g11 := hN205
        refine wl_step0 (or_storeAt (cs' := [(.slice A24 (ys.length + 1) c24)]) sz64 rfl rfl rfl hb_g12 rfl rfl) rfl rfl ?_
        rintro _ w206 ⟨hN206, hg206⟩
        have hz_hg206 := hg206.size
        replace hb_g9 := hb_g9.gr hg206 (by intro e; cases e; omega)
        replace hb_g11 := hb_g11.gr hg206 (by intro e; cases e; omega)
        replace hFL := FL.gr hFL hg206 hb_g12 (by decide)
        replace hE := hE.gr hg206 (fun _ e => by cases e; omega)
        replace hb8 := hb8.gr hg206 (fun x e => by cases e; omega) (fun x e e2 => by cases e; have := hDs _ e2; omega)
        replace ho8 := Own.gr ho8 hg206 (by first | exact .inl rfl | (right; intro e; first | (have := hq_ho8 _ e; omega) | (have := Own.lt ho8 e; omega) | exact own_blk_ne ho8 hb_g12 (by decide) e))
        replace ho20 := Own.gr ho20 hg206 (by first | exact .inl rfl | (right; intro e; first | (have := hq_ho20 _ e; omega) | (have := Own.lt ho20 e; omega) | exact own_blk_ne ho20 hb_g12 (by decide) e))
        replace ho24 := Own.gr ho24 hg206 (by first | exact .inl rfl | (right; intro e; first | (have := hq_ho24 _ e; omega) | (have := Own.lt ho24 e; omega) | exact own_blk_ne ho24 hb_g12 (by decide) e))
        replace hb_g12 := hN206
        refine q_nil ?_
        refine k_then ?_
        refine wc_seq ?_
        refine wc_regionL ?_
        refine wl_val (ov_assign rfl) rfl rfl rfl ?_
        refine q_nil ?_
        refine k_then ?_
        refine q_ret ?_
        refine e_ret rfl rfl ?_
        have hne : ¬ ((dnext m cl l).2.2.2 = 4 ∨ (dnext m cl l).2.2.2 = 14) := by omega
        have hln : (ys ++ [((((dnext m cl l).2.2.1.1, A8, c8, (dnext m cl l).2.2.1.2), (dnext m cl l).2.2.2) : Got)]).length = ys.length + 1 := by simp
        have hfm : (ys ++ [((((dnext m cl l).2.2.1.1, A8, c8, (dnext m cl l).2.2.1.2), (dnext m cl l).2.2.2) : Got)]).flatMap gotc = ys.flatMap gotc ++ [.int .u8 ((dnext m cl l).2.2.1.1.toNat : Int), .slice A8 (dnext m cl l).2.2.1.2.length c8] := by simp [gotc]
        have hmp : (ys ++ [((((dnext m cl l).2.2.1.1, A8, c8, (dnext m cl l).2.2.1.2), (dnext m cl l).2.2.2) : Got)]).map gote = ys.map gote ++ [.int .i64 ((dnext m cl l).2.2.2 : Int)] := by simp [gote]
        refine ⟨true, (dnext m cl l).1, (dnext m cl l).2.1, A20, c20, A24, c24, ys ++ [(((dnext m cl l).2.2.1.1, A8, c8, (dnext m cl l).2.2.1.2), (dnext m cl l).2.2.2)], rfl, ⟨hb8, by rw [hln]; exact hb_g11, by rw [hln, hfm]; exact ho20, by rw [hln]; exact hb_g12, by rw [hln, hmp]; exact ho24, FL.snoc hFL (Own.mono ho8 (by omega)), ?_⟩, ?_, hds, .inl ⟨rfl, dnext_less hm hne⟩, hb_g9, hE⟩
        · intro y hy x e e2
          rcases List.mem_append.1 hy with h | h
          · exact hsep y h x e e2
          · simp at h; subst h
            have h1 := hq_ho8 x e; have h2 := hdec_lt x e2; omega
        · intro r
          rw [dall_feed hm hne r, List.map_append, List.append_assoc]; rfl

end Go.Proofs.Ytopfjpkjpmdhaaa
