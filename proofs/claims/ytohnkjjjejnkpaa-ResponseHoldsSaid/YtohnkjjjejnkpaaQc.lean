/-
  The writing of all parts of a command.
-/
import Derived.Test.YtohnkjjjejnkpaaQb
namespace Go.Proofs.Ytohnkjjjejnkpaa
open Go.RowKit
set_option linter.unusedVariables false
set_option maxRecDepth 4000
theorem cl55 : callable Try.prog 55 = true := by kernel_rfl
theorem cl56 : callable Try.prog 56 = true := by kernel_rfl
theorem cl58 : callable Try.prog 58 = true := by kernel_rfl
theorem cl60 : callable Try.prog 60 = true := by kernel_rfl
theorem fo58_0 : fieldOff Try.prog 58 0 = some 0 := by kernel_rfl
theorem fo58_1 : fieldOff Try.prog 58 1 = some 1 := by kernel_rfl
theorem fo58_2 : fieldOff Try.prog 58 2 = some 2 := by kernel_rfl
theorem fo58_4 : fieldOff Try.prog 58 4 = some 4 := by kernel_rfl
theorem fo58_6 : fieldOff Try.prog 58 6 = some 6 := by kernel_rfl
theorem fo58_7 : fieldOff Try.prog 58 7 = some 7 := by kernel_rfl
theorem fo58_8 : fieldOff Try.prog 58 8 = some 8 := by kernel_rfl
theorem fo58_9 : fieldOff Try.prog 58 9 = some 9 := by kernel_rfl
theorem oc22 : oneCellTy Try.prog 22 = true := by kernel_rfl

/-- How much a command holds. -/
def csz (c : Cmd) : Nat := c.key.length + c.value.length + (wl c.tags).length + (wl c.keys).length + c.tag.length + c.pre.length + c.child.length

theorem partsw_1 (w : World) (gx gc : Nat) (hb_gx : Blk w gx 92 [.pointer (some ⟨gc, 0, none⟩), .pointer none, .slice none ([] : List UInt8).length 0, .bool false]) (cm : Cmd) (K : Option Addr) (ck : Nat) (V : Option Addr) (cv : Nat) (T : Option Addr) (ct : Nat) (hb_gc : Blk w gc 58 (cmdc cm K ck V cv T ct)) (hgc : gc ≠ gx) (lov hiv : Nat) (hV : RdB w lov hiv V cv cm.value) (hVx : gx < lov ∨ hiv ≤ gx) (hVh : hiv ≤ w.heap.size) (lok hik : Nat) (hKs : RdS w lok hik K ck cm.keys) (hKx : gx < lok ∨ hik ≤ gx) (hKh : hik ≤ w.heap.size) (lot hit : Nat) (hTs : RdS w lot hit T ct cm.tags) (hTx : gx < lot ∨ hit ≤ gx) (hTh : hit ≤ w.heap.size) (hlf : cm.life < 18446744073709551616) (hvr : cm.ver < 18446744073709551616) (hsz : csz cm ≤ 17592186044416) (hop : cm.op = 1) :
    Fn Try.prog 40 #[(.pointer (some ⟨gx, 0, none⟩))] w (fun v w' => v = .tuple #[] ∧ (∃ A' c', Blk w' gx 92 [.pointer (some ⟨gc, 0, none⟩), .pointer none, .slice A' ((wfold cm).1).length c', .bool (wfold cm).2] ∧ OwnB w' (gx + 1) 5 A' c' ((wfold cm).1)) ∧ Gr w w' (some gx))  := by
  have hG := (ext_refl w).row (some gx)
  have hgxl := hb_gx.lt
  have hgcl := hb_gc.lt
  have hn0 : ([] : List UInt8).length = 0 := rfl
  simp only [csz] at hsz
  refine fn_enter (args := [(.pointer (some ⟨gx, 0, none⟩))]) Try.func40 rfl rfl rfl ?_
  show WC _ _ _ _ [(0, (.pointer (some ⟨gx, 0, none⟩)))] _
  refine wc_seq (wc_regionL ?_)
  refine vm rfl rfl ?_
  refine vn rfl rfl ?_
  refine wl_val (ov_field0 (off := 0) fo92_0 rfl) rfl rfl rfl ?_
  refine wl_val (ov_loadAt oc90 rfl hb_gx rfl) rfl rfl rfl ?_
  refine va rfl rfl ?_
  refine q_nil (k_then (wc_seq (wc_regionL ?_)))
  refine vm rfl rfl ?_
  refine vn rfl rfl ?_
  refine wl_val (ov_field0 (off := 0) fo58_0 rfl) rfl rfl rfl ?_
  refine wl_val (ov_loadAt oc22 rfl hb_gc rfl) rfl rfl rfl ?_
  refine wl_spell (d := 10) rfl (v' := (.int .i64 1)) (by rw [hop]) ?_
  refine q_nil (k_then (wc_block (wc_seq (wc_seq (wc_regionL ?_)))))
  refine ve rfl rfl rfl ?_
  refine va rfl rfl ?_
  refine q_nil (k_then ?_)
  refine wc_cond_t rfl ?_
  refine q_skip (k_then ?_)
  refine wc_cond_t rfl ?_
  refine wc_seq (wc_regionL ?_)
  iterate 2 refine vm rfl rfl ?_
  refine vn rfl rfl ?_
  refine wl_val (ov_field0 (off := 1) fo58_1 rfl) rfl rfl rfl ?_
  refine wl_step (or_call0 cl53 rfl rfl (partw _ gx gc none 0 ([] : List UInt8) false hb_gx (Own.nil_ _ _ _ _) (by omega) ⟨gc, 1, none⟩ cm.key (hb_gc.at rfl) (by show gc ≠ gx; omega) (by omega) kv 54 cl54 (fun w => kv_any w _))) rfl rfl rfl ?_
  rintro v w1 ⟨rfl, ⟨A22, c22, hN22, ho22⟩, hg22⟩
  have hz_hg22 := hg22.size
  replace hb_gc := hb_gc.gr hg22 (by intro e; cases e; omega)
  replace hV := hV.gr hg22 (fun _ e => by cases e; omega)
  replace hKs := hKs.gr hg22 (fun _ e => by cases e; omega)
  replace hTs := hTs.gr hg22 (fun _ e => by cases e; omega)
  replace hG := hG.gr hg22 (fun _ e => by first | exact .inl e | (cases e; right; omega))
  replace hb_gx := hN22
  have hq_ho22 := fun g e => Own.lt ho22 (g := g) e
  have hl22 : (([] : List UInt8) ++ pb cm.key).length = (([] : List UInt8)).length + (pb cm.key).length := List.length_append
  have hlp22 := len_pb cm.key
  have hle22 := enc_len (cm.key).length
  refine q_nil (k_then (wc_seq (wc_regionL ?_)))
  refine vm rfl rfl ?_
  refine wl_step (or_call0 cl55 rfl rfl (valuew _ gx gc A22 c22 (([] : List UInt8) ++ pb cm.key) (false || !kv cm.key) hb_gx ho22 (by omega) cm K ck V cv T ct hb_gc (by omega) _ _ hV (by omega) (by omega) (by omega))) rfl rfl rfl ?_
  rintro v w2 ⟨rfl, ⟨A24, c24, hN24, ho24⟩, hg24⟩
  have hz_hg24 := hg24.size
  replace hb_gc := hb_gc.gr hg24 (by intro e; cases e; omega)
  replace hV := hV.gr hg24 (fun _ e => by cases e; omega)
  replace hKs := hKs.gr hg24 (fun _ e => by cases e; omega)
  replace hTs := hTs.gr hg24 (fun _ e => by cases e; omega)
  replace hG := hG.gr hg24 (fun _ e => by first | exact .inl e | (cases e; right; omega))
  replace hb_gx := hN24
  have hq_ho24 := fun g e => Own.lt ho24 (g := g) e
  have hl24_ : ((([] : List UInt8) ++ pb cm.key) ++ pb cm.value).length = ((([] : List UInt8) ++ pb cm.key)).length + (pb cm.value).length := List.length_append
  have hlp24_ := len_pb cm.value
  have hle24_ := enc_len cm.value.length
  refine q_nil (k_then (wc_seq (wc_regionL ?_)))
  iterate 2 refine vm rfl rfl ?_
  refine vn rfl rfl ?_
  refine wl_val (ov_field0 (off := 4) fo58_4 rfl) rfl rfl rfl ?_
  refine wl_step (or_call0 cl56 rfl rfl (listTw _ gx gc A24 c24 ((([] : List UInt8) ++ pb cm.key) ++ pb cm.value) ((false || !kv cm.key) || !vv cm.value) hb_gx ho24 (by omega) cm K ck V cv T ct hb_gc (by omega) _ _ hTs (by omega) (by omega) (by omega))) rfl rfl rfl ?_
  rintro v w3 ⟨rfl, ⟨A29, c29, hN29, ho29⟩, hg29⟩
  have hz_hg29 := hg29.size
  replace hb_gc := hb_gc.gr hg29 (by intro e; cases e; omega)
  replace hV := hV.gr hg29 (fun _ e => by cases e; omega)
  replace hKs := hKs.gr hg29 (fun _ e => by cases e; omega)
  replace hTs := hTs.gr hg29 (fun _ e => by cases e; omega)
  replace hG := hG.gr hg29 (fun _ e => by first | exact .inl e | (cases e; right; omega))
  replace hb_gx := hN29
  have hq_ho29 := fun g e => Own.lt ho29 (g := g) e
  have hwl29 := wlst_len 0 16 tv ((([] : List UInt8) ++ pb cm.key) ++ pb cm.value) ((false || !kv cm.key) || !vv cm.value) cm.tags
  refine q_nil (k_then (wc_seq (wc_regionL ?_)))
  refine vm rfl rfl ?_
  refine wl_step (or_call0 cl58 rfl rfl (lifew _ gx gc A29 c29 (wlst 0 16 tv (((([] : List UInt8) ++ pb cm.key) ++ pb cm.value), ((false || !kv cm.key) || !vv cm.value)) cm.tags).1 (wlst 0 16 tv (((([] : List UInt8) ++ pb cm.key) ++ pb cm.value), ((false || !kv cm.key) || !vv cm.value)) cm.tags).2 hb_gx ho29 (by omega) cm K ck V cv T ct hb_gc (by omega) (by omega))) rfl rfl rfl ?_
  rintro v w4 ⟨rfl, ⟨A31, c31, hN31, ho31⟩, hg31⟩
  have hz_hg31 := hg31.size
  replace hb_gc := hb_gc.gr hg31 (by intro e; cases e; omega)
  replace hV := hV.gr hg31 (fun _ e => by cases e; omega)
  replace hKs := hKs.gr hg31 (fun _ e => by cases e; omega)
  replace hTs := hTs.gr hg31 (fun _ e => by cases e; omega)
  replace hG := hG.gr hg31 (fun _ e => by first | exact .inl e | (cases e; right; omega))
  replace hb_gx := hN31
  have hq_ho31 := fun g e => Own.lt ho31 (g := g) e
  have hl31_ : ((wlst 0 16 tv (((([] : List UInt8) ++ pb cm.key) ++ pb cm.value), ((false || !kv cm.key) || !vv cm.value)) cm.tags).1 ++ enc cm.life).length = ((wlst 0 16 tv (((([] : List UInt8) ++ pb cm.key) ++ pb cm.value), ((false || !kv cm.key) || !vv cm.value)) cm.tags).1).length + (enc cm.life).length := List.length_append
  have hle31_ := enc_len cm.life
  refine q_nil (k_then (wc_seq (wc_regionL ?_)))
  refine vm rfl rfl ?_
  refine vn rfl rfl ?_
  refine wl_val (ov_field0 (off := 0) fo58_0 rfl) rfl rfl rfl ?_
  refine wl_val (ov_loadAt oc22 rfl hb_gc rfl) rfl rfl rfl ?_
  refine wl_spell (d := 35) rfl (v' := (.int .i64 1)) (by rw [hop]) ?_
  refine ve rfl rfl rfl ?_
  refine q_nil (k_then ?_)
  refine wc_cond_f rfl ?_
  refine q_skip (k_block ?_)
  refine e_end0 rfl ?_
  have e : wfold cm = (((wlst 0 16 tv (((([] : List UInt8) ++ pb cm.key) ++ pb cm.value), ((false || !kv cm.key) || !vv cm.value)) cm.tags).1 ++ enc cm.life), ((wlst 0 16 tv (((([] : List UInt8) ++ pb cm.key) ++ pb cm.value), ((false || !kv cm.key) || !vv cm.value)) cm.tags).2 || decide (cm.life = 0))) := by unfold wfold; rw [hop]; rfl
  rw [e]
  exact ⟨rfl, ⟨A31, c31, hb_gx, ho31⟩, hG⟩

theorem partsw_2 (w : World) (gx gc : Nat) (hb_gx : Blk w gx 92 [.pointer (some ⟨gc, 0, none⟩), .pointer none, .slice none ([] : List UInt8).length 0, .bool false]) (cm : Cmd) (K : Option Addr) (ck : Nat) (V : Option Addr) (cv : Nat) (T : Option Addr) (ct : Nat) (hb_gc : Blk w gc 58 (cmdc cm K ck V cv T ct)) (hgc : gc ≠ gx) (lov hiv : Nat) (hV : RdB w lov hiv V cv cm.value) (hVx : gx < lov ∨ hiv ≤ gx) (hVh : hiv ≤ w.heap.size) (lok hik : Nat) (hKs : RdS w lok hik K ck cm.keys) (hKx : gx < lok ∨ hik ≤ gx) (hKh : hik ≤ w.heap.size) (lot hit : Nat) (hTs : RdS w lot hit T ct cm.tags) (hTx : gx < lot ∨ hit ≤ gx) (hTh : hit ≤ w.heap.size) (hlf : cm.life < 18446744073709551616) (hvr : cm.ver < 18446744073709551616) (hsz : csz cm ≤ 17592186044416) (hop : cm.op = 2) :
    Fn Try.prog 40 #[(.pointer (some ⟨gx, 0, none⟩))] w (fun v w' => v = .tuple #[] ∧ (∃ A' c', Blk w' gx 92 [.pointer (some ⟨gc, 0, none⟩), .pointer none, .slice A' ((wfold cm).1).length c', .bool (wfold cm).2] ∧ OwnB w' (gx + 1) 5 A' c' ((wfold cm).1)) ∧ Gr w w' (some gx))  := by
  have hG := (ext_refl w).row (some gx)
  have hgxl := hb_gx.lt
  have hgcl := hb_gc.lt
  have hn0 : ([] : List UInt8).length = 0 := rfl
  simp only [csz] at hsz
  refine fn_enter (args := [(.pointer (some ⟨gx, 0, none⟩))]) Try.func40 rfl rfl rfl ?_
  show WC _ _ _ _ [(0, (.pointer (some ⟨gx, 0, none⟩)))] _
  refine wc_seq (wc_regionL ?_)
  refine vm rfl rfl ?_
  refine vn rfl rfl ?_
  refine wl_val (ov_field0 (off := 0) fo92_0 rfl) rfl rfl rfl ?_
  refine wl_val (ov_loadAt oc90 rfl hb_gx rfl) rfl rfl rfl ?_
  refine va rfl rfl ?_
  refine q_nil (k_then (wc_seq (wc_regionL ?_)))
  refine vm rfl rfl ?_
  refine vn rfl rfl ?_
  refine wl_val (ov_field0 (off := 0) fo58_0 rfl) rfl rfl rfl ?_
  refine wl_val (ov_loadAt oc22 rfl hb_gc rfl) rfl rfl rfl ?_
  refine wl_spell (d := 10) rfl (v' := (.int .i64 2)) (by rw [hop]) ?_
  refine q_nil (k_then (wc_block (wc_seq (wc_seq (wc_regionL ?_)))))
  refine ve rfl rfl rfl ?_
  refine va rfl rfl ?_
  refine q_nil (k_then ?_)
  refine wc_cond_f rfl ?_
  refine wc_seq (wc_regionL ?_)
  refine ve rfl rfl rfl ?_
  refine va rfl rfl ?_
  refine q_nil (k_then ?_)
  refine wc_cond_t rfl ?_
  refine q_skip (k_then ?_)
  refine wc_cond_t rfl ?_
  refine wc_seq (wc_regionL ?_)
  iterate 2 refine vm rfl rfl ?_
  refine vn rfl rfl ?_
  refine wl_val (ov_field0 (off := 1) fo58_1 rfl) rfl rfl rfl ?_
  refine wl_step (or_call0 cl53 rfl rfl (partw _ gx gc none 0 ([] : List UInt8) false hb_gx (Own.nil_ _ _ _ _) (by omega) ⟨gc, 1, none⟩ cm.key (hb_gc.at rfl) (by show gc ≠ gx; omega) (by omega) kv 54 cl54 (fun w => kv_any w _))) rfl rfl rfl ?_
  rintro v w1 ⟨rfl, ⟨A22, c22, hN22, ho22⟩, hg22⟩
  have hz_hg22 := hg22.size
  replace hb_gc := hb_gc.gr hg22 (by intro e; cases e; omega)
  replace hV := hV.gr hg22 (fun _ e => by cases e; omega)
  replace hKs := hKs.gr hg22 (fun _ e => by cases e; omega)
  replace hTs := hTs.gr hg22 (fun _ e => by cases e; omega)
  replace hG := hG.gr hg22 (fun _ e => by first | exact .inl e | (cases e; right; omega))
  replace hb_gx := hN22
  have hq_ho22 := fun g e => Own.lt ho22 (g := g) e
  have hl22 : (([] : List UInt8) ++ pb cm.key).length = (([] : List UInt8)).length + (pb cm.key).length := List.length_append
  have hlp22 := len_pb cm.key
  have hle22 := enc_len (cm.key).length
  refine q_nil (k_then (wc_seq (wc_regionL ?_)))
  refine vm rfl rfl ?_
  refine wl_step (or_call0 cl55 rfl rfl (valuew _ gx gc A22 c22 (([] : List UInt8) ++ pb cm.key) (false || !kv cm.key) hb_gx ho22 (by omega) cm K ck V cv T ct hb_gc (by omega) _ _ hV (by omega) (by omega) (by omega))) rfl rfl rfl ?_
  rintro v w2 ⟨rfl, ⟨A24, c24, hN24, ho24⟩, hg24⟩
  have hz_hg24 := hg24.size
  replace hb_gc := hb_gc.gr hg24 (by intro e; cases e; omega)
  replace hV := hV.gr hg24 (fun _ e => by cases e; omega)
  replace hKs := hKs.gr hg24 (fun _ e => by cases e; omega)
  replace hTs := hTs.gr hg24 (fun _ e => by cases e; omega)
  replace hG := hG.gr hg24 (fun _ e => by first | exact .inl e | (cases e; right; omega))
  replace hb_gx := hN24
  have hq_ho24 := fun g e => Own.lt ho24 (g := g) e
  have hl24_ : ((([] : List UInt8) ++ pb cm.key) ++ pb cm.value).length = ((([] : List UInt8) ++ pb cm.key)).length + (pb cm.value).length := List.length_append
  have hlp24_ := len_pb cm.value
  have hle24_ := enc_len cm.value.length
  refine q_nil (k_then (wc_seq (wc_regionL ?_)))
  iterate 2 refine vm rfl rfl ?_
  refine vn rfl rfl ?_
  refine wl_val (ov_field0 (off := 4) fo58_4 rfl) rfl rfl rfl ?_
  refine wl_step (or_call0 cl56 rfl rfl (listTw _ gx gc A24 c24 ((([] : List UInt8) ++ pb cm.key) ++ pb cm.value) ((false || !kv cm.key) || !vv cm.value) hb_gx ho24 (by omega) cm K ck V cv T ct hb_gc (by omega) _ _ hTs (by omega) (by omega) (by omega))) rfl rfl rfl ?_
  rintro v w3 ⟨rfl, ⟨A29, c29, hN29, ho29⟩, hg29⟩
  have hz_hg29 := hg29.size
  replace hb_gc := hb_gc.gr hg29 (by intro e; cases e; omega)
  replace hV := hV.gr hg29 (fun _ e => by cases e; omega)
  replace hKs := hKs.gr hg29 (fun _ e => by cases e; omega)
  replace hTs := hTs.gr hg29 (fun _ e => by cases e; omega)
  replace hG := hG.gr hg29 (fun _ e => by first | exact .inl e | (cases e; right; omega))
  replace hb_gx := hN29
  have hq_ho29 := fun g e => Own.lt ho29 (g := g) e
  have hwl29 := wlst_len 0 16 tv ((([] : List UInt8) ++ pb cm.key) ++ pb cm.value) ((false || !kv cm.key) || !vv cm.value) cm.tags
  refine q_nil (k_then (wc_seq (wc_regionL ?_)))
  refine vm rfl rfl ?_
  refine wl_step (or_call0 cl58 rfl rfl (lifew _ gx gc A29 c29 (wlst 0 16 tv (((([] : List UInt8) ++ pb cm.key) ++ pb cm.value), ((false || !kv cm.key) || !vv cm.value)) cm.tags).1 (wlst 0 16 tv (((([] : List UInt8) ++ pb cm.key) ++ pb cm.value), ((false || !kv cm.key) || !vv cm.value)) cm.tags).2 hb_gx ho29 (by omega) cm K ck V cv T ct hb_gc (by omega) (by omega))) rfl rfl rfl ?_
  rintro v w4 ⟨rfl, ⟨A31, c31, hN31, ho31⟩, hg31⟩
  have hz_hg31 := hg31.size
  replace hb_gc := hb_gc.gr hg31 (by intro e; cases e; omega)
  replace hV := hV.gr hg31 (fun _ e => by cases e; omega)
  replace hKs := hKs.gr hg31 (fun _ e => by cases e; omega)
  replace hTs := hTs.gr hg31 (fun _ e => by cases e; omega)
  replace hG := hG.gr hg31 (fun _ e => by first | exact .inl e | (cases e; right; omega))
  replace hb_gx := hN31
  have hq_ho31 := fun g e => Own.lt ho31 (g := g) e
  have hl31_ : ((wlst 0 16 tv (((([] : List UInt8) ++ pb cm.key) ++ pb cm.value), ((false || !kv cm.key) || !vv cm.value)) cm.tags).1 ++ enc cm.life).length = ((wlst 0 16 tv (((([] : List UInt8) ++ pb cm.key) ++ pb cm.value), ((false || !kv cm.key) || !vv cm.value)) cm.tags).1).length + (enc cm.life).length := List.length_append
  have hle31_ := enc_len cm.life
  refine q_nil (k_then (wc_seq (wc_regionL ?_)))
  refine vm rfl rfl ?_
  refine vn rfl rfl ?_
  refine wl_val (ov_field0 (off := 0) fo58_0 rfl) rfl rfl rfl ?_
  refine wl_val (ov_loadAt oc22 rfl hb_gc rfl) rfl rfl rfl ?_
  refine wl_spell (d := 35) rfl (v' := (.int .i64 2)) (by rw [hop]) ?_
  refine ve rfl rfl rfl ?_
  refine q_nil (k_then ?_)
  refine wc_cond_f rfl ?_
  refine q_skip (k_block ?_)
  refine e_end0 rfl ?_
  have e : wfold cm = (((wlst 0 16 tv (((([] : List UInt8) ++ pb cm.key) ++ pb cm.value), ((false || !kv cm.key) || !vv cm.value)) cm.tags).1 ++ enc cm.life), ((wlst 0 16 tv (((([] : List UInt8) ++ pb cm.key) ++ pb cm.value), ((false || !kv cm.key) || !vv cm.value)) cm.tags).2 || decide (cm.life = 0))) := by unfold wfold; rw [hop]; rfl
  rw [e]
  exact ⟨rfl, ⟨A31, c31, hb_gx, ho31⟩, hG⟩

theorem partsw_3 (w : World) (gx gc : Nat) (hb_gx : Blk w gx 92 [.pointer (some ⟨gc, 0, none⟩), .pointer none, .slice none ([] : List UInt8).length 0, .bool false]) (cm : Cmd) (K : Option Addr) (ck : Nat) (V : Option Addr) (cv : Nat) (T : Option Addr) (ct : Nat) (hb_gc : Blk w gc 58 (cmdc cm K ck V cv T ct)) (hgc : gc ≠ gx) (lov hiv : Nat) (hV : RdB w lov hiv V cv cm.value) (hVx : gx < lov ∨ hiv ≤ gx) (hVh : hiv ≤ w.heap.size) (lok hik : Nat) (hKs : RdS w lok hik K ck cm.keys) (hKx : gx < lok ∨ hik ≤ gx) (hKh : hik ≤ w.heap.size) (lot hit : Nat) (hTs : RdS w lot hit T ct cm.tags) (hTx : gx < lot ∨ hit ≤ gx) (hTh : hit ≤ w.heap.size) (hlf : cm.life < 18446744073709551616) (hvr : cm.ver < 18446744073709551616) (hsz : csz cm ≤ 17592186044416) (hop : cm.op = 3) :
    Fn Try.prog 40 #[(.pointer (some ⟨gx, 0, none⟩))] w (fun v w' => v = .tuple #[] ∧ (∃ A' c', Blk w' gx 92 [.pointer (some ⟨gc, 0, none⟩), .pointer none, .slice A' ((wfold cm).1).length c', .bool (wfold cm).2] ∧ OwnB w' (gx + 1) 5 A' c' ((wfold cm).1)) ∧ Gr w w' (some gx))  := by
  have hG := (ext_refl w).row (some gx)
  have hgxl := hb_gx.lt
  have hgcl := hb_gc.lt
  have hn0 : ([] : List UInt8).length = 0 := rfl
  simp only [csz] at hsz
  refine fn_enter (args := [(.pointer (some ⟨gx, 0, none⟩))]) Try.func40 rfl rfl rfl ?_
  show WC _ _ _ _ [(0, (.pointer (some ⟨gx, 0, none⟩)))] _
  refine wc_seq (wc_regionL ?_)
  refine vm rfl rfl ?_
  refine vn rfl rfl ?_
  refine wl_val (ov_field0 (off := 0) fo92_0 rfl) rfl rfl rfl ?_
  refine wl_val (ov_loadAt oc90 rfl hb_gx rfl) rfl rfl rfl ?_
  refine va rfl rfl ?_
  refine q_nil (k_then (wc_seq (wc_regionL ?_)))
  refine vm rfl rfl ?_
  refine vn rfl rfl ?_
  refine wl_val (ov_field0 (off := 0) fo58_0 rfl) rfl rfl rfl ?_
  refine wl_val (ov_loadAt oc22 rfl hb_gc rfl) rfl rfl rfl ?_
  refine wl_spell (d := 10) rfl (v' := (.int .i64 3)) (by rw [hop]) ?_
  refine q_nil (k_then (wc_block (wc_seq (wc_seq (wc_regionL ?_)))))
  refine ve rfl rfl rfl ?_
  refine va rfl rfl ?_
  refine q_nil (k_then ?_)
  refine wc_cond_f rfl ?_
  refine wc_seq (wc_regionL ?_)
  refine ve rfl rfl rfl ?_
  refine va rfl rfl ?_
  refine q_nil (k_then ?_)
  refine wc_cond_f rfl ?_
  refine wc_regionL ?_
  refine ve rfl rfl rfl ?_
  refine va rfl rfl ?_
  refine q_nil (k_then ?_)
  refine wc_cond_t rfl ?_
  refine wc_seq (wc_regionL ?_)
  iterate 2 refine vm rfl rfl ?_
  refine vn rfl rfl ?_
  refine wl_val (ov_field0 (off := 1) fo58_1 rfl) rfl rfl rfl ?_
  refine wl_step (or_call0 cl53 rfl rfl (partw _ gx gc none 0 ([] : List UInt8) false hb_gx (Own.nil_ _ _ _ _) (by omega) ⟨gc, 1, none⟩ cm.key (hb_gc.at rfl) (by show gc ≠ gx; omega) (by omega) kv 54 cl54 (fun w => kv_any w _))) rfl rfl rfl ?_
  rintro v w1 ⟨rfl, ⟨A22, c22, hN22, ho22⟩, hg22⟩
  have hz_hg22 := hg22.size
  replace hb_gc := hb_gc.gr hg22 (by intro e; cases e; omega)
  replace hV := hV.gr hg22 (fun _ e => by cases e; omega)
  replace hKs := hKs.gr hg22 (fun _ e => by cases e; omega)
  replace hTs := hTs.gr hg22 (fun _ e => by cases e; omega)
  replace hG := hG.gr hg22 (fun _ e => by first | exact .inl e | (cases e; right; omega))
  replace hb_gx := hN22
  have hq_ho22 := fun g e => Own.lt ho22 (g := g) e
  have hl22 : (([] : List UInt8) ++ pb cm.key).length = (([] : List UInt8)).length + (pb cm.key).length := List.length_append
  have hlp22 := len_pb cm.key
  have hle22 := enc_len (cm.key).length
  refine q_nil (k_then (wc_seq (wc_regionL ?_)))
  refine vm rfl rfl ?_
  refine wl_step (or_call0 cl55 rfl rfl (valuew _ gx gc A22 c22 (([] : List UInt8) ++ pb cm.key) (false || !kv cm.key) hb_gx ho22 (by omega) cm K ck V cv T ct hb_gc (by omega) _ _ hV (by omega) (by omega) (by omega))) rfl rfl rfl ?_
  rintro v w2 ⟨rfl, ⟨A24, c24, hN24, ho24⟩, hg24⟩
  have hz_hg24 := hg24.size
  replace hb_gc := hb_gc.gr hg24 (by intro e; cases e; omega)
  replace hV := hV.gr hg24 (fun _ e => by cases e; omega)
  replace hKs := hKs.gr hg24 (fun _ e => by cases e; omega)
  replace hTs := hTs.gr hg24 (fun _ e => by cases e; omega)
  replace hG := hG.gr hg24 (fun _ e => by first | exact .inl e | (cases e; right; omega))
  replace hb_gx := hN24
  have hq_ho24 := fun g e => Own.lt ho24 (g := g) e
  have hl24_ : ((([] : List UInt8) ++ pb cm.key) ++ pb cm.value).length = ((([] : List UInt8) ++ pb cm.key)).length + (pb cm.value).length := List.length_append
  have hlp24_ := len_pb cm.value
  have hle24_ := enc_len cm.value.length
  refine q_nil (k_then (wc_seq (wc_regionL ?_)))
  iterate 2 refine vm rfl rfl ?_
  refine vn rfl rfl ?_
  refine wl_val (ov_field0 (off := 4) fo58_4 rfl) rfl rfl rfl ?_
  refine wl_step (or_call0 cl56 rfl rfl (listTw _ gx gc A24 c24 ((([] : List UInt8) ++ pb cm.key) ++ pb cm.value) ((false || !kv cm.key) || !vv cm.value) hb_gx ho24 (by omega) cm K ck V cv T ct hb_gc (by omega) _ _ hTs (by omega) (by omega) (by omega))) rfl rfl rfl ?_
  rintro v w3 ⟨rfl, ⟨A29, c29, hN29, ho29⟩, hg29⟩
  have hz_hg29 := hg29.size
  replace hb_gc := hb_gc.gr hg29 (by intro e; cases e; omega)
  replace hV := hV.gr hg29 (fun _ e => by cases e; omega)
  replace hKs := hKs.gr hg29 (fun _ e => by cases e; omega)
  replace hTs := hTs.gr hg29 (fun _ e => by cases e; omega)
  replace hG := hG.gr hg29 (fun _ e => by first | exact .inl e | (cases e; right; omega))
  replace hb_gx := hN29
  have hq_ho29 := fun g e => Own.lt ho29 (g := g) e
  have hwl29 := wlst_len 0 16 tv ((([] : List UInt8) ++ pb cm.key) ++ pb cm.value) ((false || !kv cm.key) || !vv cm.value) cm.tags
  refine q_nil (k_then (wc_seq (wc_regionL ?_)))
  refine vm rfl rfl ?_
  refine wl_step (or_call0 cl58 rfl rfl (lifew _ gx gc A29 c29 (wlst 0 16 tv (((([] : List UInt8) ++ pb cm.key) ++ pb cm.value), ((false || !kv cm.key) || !vv cm.value)) cm.tags).1 (wlst 0 16 tv (((([] : List UInt8) ++ pb cm.key) ++ pb cm.value), ((false || !kv cm.key) || !vv cm.value)) cm.tags).2 hb_gx ho29 (by omega) cm K ck V cv T ct hb_gc (by omega) (by omega))) rfl rfl rfl ?_
  rintro v w4 ⟨rfl, ⟨A31, c31, hN31, ho31⟩, hg31⟩
  have hz_hg31 := hg31.size
  replace hb_gc := hb_gc.gr hg31 (by intro e; cases e; omega)
  replace hV := hV.gr hg31 (fun _ e => by cases e; omega)
  replace hKs := hKs.gr hg31 (fun _ e => by cases e; omega)
  replace hTs := hTs.gr hg31 (fun _ e => by cases e; omega)
  replace hG := hG.gr hg31 (fun _ e => by first | exact .inl e | (cases e; right; omega))
  replace hb_gx := hN31
  have hq_ho31 := fun g e => Own.lt ho31 (g := g) e
  have hl31_ : ((wlst 0 16 tv (((([] : List UInt8) ++ pb cm.key) ++ pb cm.value), ((false || !kv cm.key) || !vv cm.value)) cm.tags).1 ++ enc cm.life).length = ((wlst 0 16 tv (((([] : List UInt8) ++ pb cm.key) ++ pb cm.value), ((false || !kv cm.key) || !vv cm.value)) cm.tags).1).length + (enc cm.life).length := List.length_append
  have hle31_ := enc_len cm.life
  refine q_nil (k_then (wc_seq (wc_regionL ?_)))
  refine vm rfl rfl ?_
  refine vn rfl rfl ?_
  refine wl_val (ov_field0 (off := 0) fo58_0 rfl) rfl rfl rfl ?_
  refine wl_val (ov_loadAt oc22 rfl hb_gc rfl) rfl rfl rfl ?_
  refine wl_spell (d := 35) rfl (v' := (.int .i64 3)) (by rw [hop]) ?_
  refine ve rfl rfl rfl ?_
  refine q_nil (k_then ?_)
  refine wc_cond_t rfl ?_
  refine wc_regionL ?_
  iterate 2 refine vm rfl rfl ?_
  refine vn rfl rfl ?_
  refine wl_val (ov_field0 (off := 6) fo58_6 rfl) rfl rfl rfl ?_
  refine wl_step (or_call0 cl59 rfl rfl (numw _ gx gc A31 c31 ((wlst 0 16 tv (((([] : List UInt8) ++ pb cm.key) ++ pb cm.value), ((false || !kv cm.key) || !vv cm.value)) cm.tags).1 ++ enc cm.life) ((wlst 0 16 tv (((([] : List UInt8) ++ pb cm.key) ++ pb cm.value), ((false || !kv cm.key) || !vv cm.value)) cm.tags).2 || decide (cm.life = 0)) hb_gx ho31 (by omega) ⟨gc, 6, none⟩ (cm.ver) (hb_gc.at rfl) (by omega))) rfl rfl rfl ?_
  rintro v w5 ⟨rfl, ⟨A41, c41, hN41, ho41⟩, hg41⟩
  have hz_hg41 := hg41.size
  replace hb_gc := hb_gc.gr hg41 (by intro e; cases e; omega)
  replace hV := hV.gr hg41 (fun _ e => by cases e; omega)
  replace hKs := hKs.gr hg41 (fun _ e => by cases e; omega)
  replace hTs := hTs.gr hg41 (fun _ e => by cases e; omega)
  replace hG := hG.gr hg41 (fun _ e => by first | exact .inl e | (cases e; right; omega))
  replace hb_gx := hN41
  have hq_ho41 := fun g e => Own.lt ho41 (g := g) e
  have hl41 : (((wlst 0 16 tv (((([] : List UInt8) ++ pb cm.key) ++ pb cm.value), ((false || !kv cm.key) || !vv cm.value)) cm.tags).1 ++ enc cm.life) ++ enc (cm.ver)).length = (((wlst 0 16 tv (((([] : List UInt8) ++ pb cm.key) ++ pb cm.value), ((false || !kv cm.key) || !vv cm.value)) cm.tags).1 ++ enc cm.life)).length + (enc (cm.ver)).length := List.length_append
  have hle41 := enc_len (cm.ver)
  refine q_nil (k_block ?_)
  refine e_end0 rfl ?_
  have e : wfold cm = ((((wlst 0 16 tv (((([] : List UInt8) ++ pb cm.key) ++ pb cm.value), ((false || !kv cm.key) || !vv cm.value)) cm.tags).1 ++ enc cm.life) ++ enc (cm.ver)), ((wlst 0 16 tv (((([] : List UInt8) ++ pb cm.key) ++ pb cm.value), ((false || !kv cm.key) || !vv cm.value)) cm.tags).2 || decide (cm.life = 0))) := by unfold wfold; rw [hop]; rfl
  rw [e]
  exact ⟨rfl, ⟨A41, c41, hb_gx, ho41⟩, hG⟩

theorem partsw_4 (w : World) (gx gc : Nat) (hb_gx : Blk w gx 92 [.pointer (some ⟨gc, 0, none⟩), .pointer none, .slice none ([] : List UInt8).length 0, .bool false]) (cm : Cmd) (K : Option Addr) (ck : Nat) (V : Option Addr) (cv : Nat) (T : Option Addr) (ct : Nat) (hb_gc : Blk w gc 58 (cmdc cm K ck V cv T ct)) (hgc : gc ≠ gx) (lov hiv : Nat) (hV : RdB w lov hiv V cv cm.value) (hVx : gx < lov ∨ hiv ≤ gx) (hVh : hiv ≤ w.heap.size) (lok hik : Nat) (hKs : RdS w lok hik K ck cm.keys) (hKx : gx < lok ∨ hik ≤ gx) (hKh : hik ≤ w.heap.size) (lot hit : Nat) (hTs : RdS w lot hit T ct cm.tags) (hTx : gx < lot ∨ hit ≤ gx) (hTh : hit ≤ w.heap.size) (hlf : cm.life < 18446744073709551616) (hvr : cm.ver < 18446744073709551616) (hsz : csz cm ≤ 17592186044416) (hop : cm.op = 4) :
    Fn Try.prog 40 #[(.pointer (some ⟨gx, 0, none⟩))] w (fun v w' => v = .tuple #[] ∧ (∃ A' c', Blk w' gx 92 [.pointer (some ⟨gc, 0, none⟩), .pointer none, .slice A' ((wfold cm).1).length c', .bool (wfold cm).2] ∧ OwnB w' (gx + 1) 5 A' c' ((wfold cm).1)) ∧ Gr w w' (some gx))  := by
  have hG := (ext_refl w).row (some gx)
  have hgxl := hb_gx.lt
  have hgcl := hb_gc.lt
  have hn0 : ([] : List UInt8).length = 0 := rfl
  simp only [csz] at hsz
  refine fn_enter (args := [(.pointer (some ⟨gx, 0, none⟩))]) Try.func40 rfl rfl rfl ?_
  show WC _ _ _ _ [(0, (.pointer (some ⟨gx, 0, none⟩)))] _
  refine wc_seq (wc_regionL ?_)
  refine vm rfl rfl ?_
  refine vn rfl rfl ?_
  refine wl_val (ov_field0 (off := 0) fo92_0 rfl) rfl rfl rfl ?_
  refine wl_val (ov_loadAt oc90 rfl hb_gx rfl) rfl rfl rfl ?_
  refine va rfl rfl ?_
  refine q_nil (k_then (wc_seq (wc_regionL ?_)))
  refine vm rfl rfl ?_
  refine vn rfl rfl ?_
  refine wl_val (ov_field0 (off := 0) fo58_0 rfl) rfl rfl rfl ?_
  refine wl_val (ov_loadAt oc22 rfl hb_gc rfl) rfl rfl rfl ?_
  refine wl_spell (d := 10) rfl (v' := (.int .i64 4)) (by rw [hop]) ?_
  refine q_nil (k_then (wc_block (wc_seq (wc_seq (wc_regionL ?_)))))
  refine ve rfl rfl rfl ?_
  refine va rfl rfl ?_
  refine q_nil (k_then ?_)
  refine wc_cond_f rfl ?_
  refine wc_seq (wc_regionL ?_)
  refine ve rfl rfl rfl ?_
  refine va rfl rfl ?_
  refine q_nil (k_then ?_)
  refine wc_cond_f rfl ?_
  refine wc_regionL ?_
  refine ve rfl rfl rfl ?_
  refine va rfl rfl ?_
  refine q_nil (k_then ?_)
  refine wc_cond_f rfl ?_
  refine wc_seq (wc_seq (wc_regionL ?_))
  refine ve rfl rfl rfl ?_
  refine va rfl rfl ?_
  refine q_nil (k_then ?_)
  refine wc_cond_t rfl ?_
  refine q_skip (k_then ?_)
  refine wc_cond_t rfl ?_
  refine wc_regionL ?_
  iterate 2 refine vm rfl rfl ?_
  refine vn rfl rfl ?_
  refine wl_val (ov_field0 (off := 1) fo58_1 rfl) rfl rfl rfl ?_
  refine wl_step (or_call0 cl53 rfl rfl (partw _ gx gc none 0 ([] : List UInt8) false hb_gx (Own.nil_ _ _ _ _) (by omega) ⟨gc, 1, none⟩ cm.key (hb_gc.at rfl) (by show gc ≠ gx; omega) (by omega) kv 54 cl54 (fun w => kv_any w _))) rfl rfl rfl ?_
  rintro v w1 ⟨rfl, ⟨A50, c50, hN50, ho50⟩, hg50⟩
  have hz_hg50 := hg50.size
  replace hb_gc := hb_gc.gr hg50 (by intro e; cases e; omega)
  replace hV := hV.gr hg50 (fun _ e => by cases e; omega)
  replace hKs := hKs.gr hg50 (fun _ e => by cases e; omega)
  replace hTs := hTs.gr hg50 (fun _ e => by cases e; omega)
  replace hG := hG.gr hg50 (fun _ e => by first | exact .inl e | (cases e; right; omega))
  replace hb_gx := hN50
  have hq_ho50 := fun g e => Own.lt ho50 (g := g) e
  have hl50 : (([] : List UInt8) ++ pb cm.key).length = (([] : List UInt8)).length + (pb cm.key).length := List.length_append
  have hlp50 := len_pb cm.key
  have hle50 := enc_len (cm.key).length
  refine q_nil (k_block ?_)
  refine e_end0 rfl ?_
  have e : wfold cm = ((([] : List UInt8) ++ pb cm.key), (false || !kv cm.key)) := by unfold wfold; rw [hop]; rfl
  rw [e]
  exact ⟨rfl, ⟨A50, c50, hb_gx, ho50⟩, hG⟩

theorem partsw_5 (w : World) (gx gc : Nat) (hb_gx : Blk w gx 92 [.pointer (some ⟨gc, 0, none⟩), .pointer none, .slice none ([] : List UInt8).length 0, .bool false]) (cm : Cmd) (K : Option Addr) (ck : Nat) (V : Option Addr) (cv : Nat) (T : Option Addr) (ct : Nat) (hb_gc : Blk w gc 58 (cmdc cm K ck V cv T ct)) (hgc : gc ≠ gx) (lov hiv : Nat) (hV : RdB w lov hiv V cv cm.value) (hVx : gx < lov ∨ hiv ≤ gx) (hVh : hiv ≤ w.heap.size) (lok hik : Nat) (hKs : RdS w lok hik K ck cm.keys) (hKx : gx < lok ∨ hik ≤ gx) (hKh : hik ≤ w.heap.size) (lot hit : Nat) (hTs : RdS w lot hit T ct cm.tags) (hTx : gx < lot ∨ hit ≤ gx) (hTh : hit ≤ w.heap.size) (hlf : cm.life < 18446744073709551616) (hvr : cm.ver < 18446744073709551616) (hsz : csz cm ≤ 17592186044416) (hop : cm.op = 5) :
    Fn Try.prog 40 #[(.pointer (some ⟨gx, 0, none⟩))] w (fun v w' => v = .tuple #[] ∧ (∃ A' c', Blk w' gx 92 [.pointer (some ⟨gc, 0, none⟩), .pointer none, .slice A' ((wfold cm).1).length c', .bool (wfold cm).2] ∧ OwnB w' (gx + 1) 5 A' c' ((wfold cm).1)) ∧ Gr w w' (some gx))  := by
  have hG := (ext_refl w).row (some gx)
  have hgxl := hb_gx.lt
  have hgcl := hb_gc.lt
  have hn0 : ([] : List UInt8).length = 0 := rfl
  simp only [csz] at hsz
  refine fn_enter (args := [(.pointer (some ⟨gx, 0, none⟩))]) Try.func40 rfl rfl rfl ?_
  show WC _ _ _ _ [(0, (.pointer (some ⟨gx, 0, none⟩)))] _
  refine wc_seq (wc_regionL ?_)
  refine vm rfl rfl ?_
  refine vn rfl rfl ?_
  refine wl_val (ov_field0 (off := 0) fo92_0 rfl) rfl rfl rfl ?_
  refine wl_val (ov_loadAt oc90 rfl hb_gx rfl) rfl rfl rfl ?_
  refine va rfl rfl ?_
  refine q_nil (k_then (wc_seq (wc_regionL ?_)))
  refine vm rfl rfl ?_
  refine vn rfl rfl ?_
  refine wl_val (ov_field0 (off := 0) fo58_0 rfl) rfl rfl rfl ?_
  refine wl_val (ov_loadAt oc22 rfl hb_gc rfl) rfl rfl rfl ?_
  refine wl_spell (d := 10) rfl (v' := (.int .i64 5)) (by rw [hop]) ?_
  refine q_nil (k_then (wc_block (wc_seq (wc_seq (wc_regionL ?_)))))
  refine ve rfl rfl rfl ?_
  refine va rfl rfl ?_
  refine q_nil (k_then ?_)
  refine wc_cond_f rfl ?_
  refine wc_seq (wc_regionL ?_)
  refine ve rfl rfl rfl ?_
  refine va rfl rfl ?_
  refine q_nil (k_then ?_)
  refine wc_cond_f rfl ?_
  refine wc_regionL ?_
  refine ve rfl rfl rfl ?_
  refine va rfl rfl ?_
  refine q_nil (k_then ?_)
  refine wc_cond_f rfl ?_
  refine wc_seq (wc_seq (wc_regionL ?_))
  refine ve rfl rfl rfl ?_
  refine va rfl rfl ?_
  refine q_nil (k_then ?_)
  refine wc_cond_f rfl ?_
  refine wc_seq (wc_regionL ?_)
  refine ve rfl rfl rfl ?_
  refine va rfl rfl ?_
  refine q_nil (k_then ?_)
  refine wc_cond_f rfl ?_
  refine wc_regionL ?_
  refine ve rfl rfl rfl ?_
  refine va rfl rfl ?_
  refine q_nil (k_then ?_)
  refine wc_cond_f rfl ?_
  refine wc_seq (wc_regionL ?_)
  refine ve rfl rfl rfl ?_
  refine va rfl rfl ?_
  refine q_nil (k_then ?_)
  refine wc_cond_t rfl ?_
  refine wc_regionL ?_
  iterate 2 refine vm rfl rfl ?_
  refine vn rfl rfl ?_
  refine wl_val (ov_field0 (off := 2) fo58_2 rfl) rfl rfl rfl ?_
  refine wl_step (or_call0 cl56 rfl rfl (listKw _ gx gc none 0 ([] : List UInt8) false hb_gx (Own.nil_ _ _ _ _) (by omega) cm K ck V cv T ct hb_gc (by omega) _ _ hKs (by omega) (by omega) (by omega))) rfl rfl rfl ?_
  rintro v w1 ⟨rfl, ⟨A57, c57, hN57, ho57⟩, hg57⟩
  have hz_hg57 := hg57.size
  replace hb_gc := hb_gc.gr hg57 (by intro e; cases e; omega)
  replace hV := hV.gr hg57 (fun _ e => by cases e; omega)
  replace hKs := hKs.gr hg57 (fun _ e => by cases e; omega)
  replace hTs := hTs.gr hg57 (fun _ e => by cases e; omega)
  replace hG := hG.gr hg57 (fun _ e => by first | exact .inl e | (cases e; right; omega))
  replace hb_gx := hN57
  have hq_ho57 := fun g e => Own.lt ho57 (g := g) e
  have hwl57 := wlst_len 1 16 kv ([] : List UInt8) false cm.keys
  refine q_nil (k_block ?_)
  refine e_end0 rfl ?_
  have e : wfold cm = ((wlst 1 16 kv (([] : List UInt8), false) cm.keys).1, (wlst 1 16 kv (([] : List UInt8), false) cm.keys).2) := by unfold wfold; rw [hop]; rfl
  rw [e]
  exact ⟨rfl, ⟨A57, c57, hb_gx, ho57⟩, hG⟩

theorem partsw_6 (w : World) (gx gc : Nat) (hb_gx : Blk w gx 92 [.pointer (some ⟨gc, 0, none⟩), .pointer none, .slice none ([] : List UInt8).length 0, .bool false]) (cm : Cmd) (K : Option Addr) (ck : Nat) (V : Option Addr) (cv : Nat) (T : Option Addr) (ct : Nat) (hb_gc : Blk w gc 58 (cmdc cm K ck V cv T ct)) (hgc : gc ≠ gx) (lov hiv : Nat) (hV : RdB w lov hiv V cv cm.value) (hVx : gx < lov ∨ hiv ≤ gx) (hVh : hiv ≤ w.heap.size) (lok hik : Nat) (hKs : RdS w lok hik K ck cm.keys) (hKx : gx < lok ∨ hik ≤ gx) (hKh : hik ≤ w.heap.size) (lot hit : Nat) (hTs : RdS w lot hit T ct cm.tags) (hTx : gx < lot ∨ hit ≤ gx) (hTh : hit ≤ w.heap.size) (hlf : cm.life < 18446744073709551616) (hvr : cm.ver < 18446744073709551616) (hsz : csz cm ≤ 17592186044416) (hop : cm.op = 6) :
    Fn Try.prog 40 #[(.pointer (some ⟨gx, 0, none⟩))] w (fun v w' => v = .tuple #[] ∧ (∃ A' c', Blk w' gx 92 [.pointer (some ⟨gc, 0, none⟩), .pointer none, .slice A' ((wfold cm).1).length c', .bool (wfold cm).2] ∧ OwnB w' (gx + 1) 5 A' c' ((wfold cm).1)) ∧ Gr w w' (some gx))  := by
  have hG := (ext_refl w).row (some gx)
  have hgxl := hb_gx.lt
  have hgcl := hb_gc.lt
  have hn0 : ([] : List UInt8).length = 0 := rfl
  simp only [csz] at hsz
  refine fn_enter (args := [(.pointer (some ⟨gx, 0, none⟩))]) Try.func40 rfl rfl rfl ?_
  show WC _ _ _ _ [(0, (.pointer (some ⟨gx, 0, none⟩)))] _
  refine wc_seq (wc_regionL ?_)
  refine vm rfl rfl ?_
  refine vn rfl rfl ?_
  refine wl_val (ov_field0 (off := 0) fo92_0 rfl) rfl rfl rfl ?_
  refine wl_val (ov_loadAt oc90 rfl hb_gx rfl) rfl rfl rfl ?_
  refine va rfl rfl ?_
  refine q_nil (k_then (wc_seq (wc_regionL ?_)))
  refine vm rfl rfl ?_
  refine vn rfl rfl ?_
  refine wl_val (ov_field0 (off := 0) fo58_0 rfl) rfl rfl rfl ?_
  refine wl_val (ov_loadAt oc22 rfl hb_gc rfl) rfl rfl rfl ?_
  refine wl_spell (d := 10) rfl (v' := (.int .i64 6)) (by rw [hop]) ?_
  refine q_nil (k_then (wc_block (wc_seq (wc_seq (wc_regionL ?_)))))
  refine ve rfl rfl rfl ?_
  refine va rfl rfl ?_
  refine q_nil (k_then ?_)
  refine wc_cond_f rfl ?_
  refine wc_seq (wc_regionL ?_)
  refine ve rfl rfl rfl ?_
  refine va rfl rfl ?_
  refine q_nil (k_then ?_)
  refine wc_cond_f rfl ?_
  refine wc_regionL ?_
  refine ve rfl rfl rfl ?_
  refine va rfl rfl ?_
  refine q_nil (k_then ?_)
  refine wc_cond_f rfl ?_
  refine wc_seq (wc_seq (wc_regionL ?_))
  refine ve rfl rfl rfl ?_
  refine va rfl rfl ?_
  refine q_nil (k_then ?_)
  refine wc_cond_f rfl ?_
  refine wc_seq (wc_regionL ?_)
  refine ve rfl rfl rfl ?_
  refine va rfl rfl ?_
  refine q_nil (k_then ?_)
  refine wc_cond_f rfl ?_
  refine wc_regionL ?_
  refine ve rfl rfl rfl ?_
  refine va rfl rfl ?_
  refine q_nil (k_then ?_)
  refine wc_cond_f rfl ?_
  refine wc_seq (wc_regionL ?_)
  refine ve rfl rfl rfl ?_
  refine va rfl rfl ?_
  refine q_nil (k_then ?_)
  refine wc_cond_f rfl ?_
  refine wc_seq (wc_regionL ?_)
  refine ve rfl rfl rfl ?_
  refine va rfl rfl ?_
  refine q_nil (k_then ?_)
  refine wc_cond_t rfl ?_
  refine wc_seq (wc_regionL ?_)
  iterate 2 refine vm rfl rfl ?_
  refine vn rfl rfl ?_
  refine wl_val (ov_field0 (off := 1) fo58_1 rfl) rfl rfl rfl ?_
  refine wl_step (or_call0 cl53 rfl rfl (partw _ gx gc none 0 ([] : List UInt8) false hb_gx (Own.nil_ _ _ _ _) (by omega) ⟨gc, 1, none⟩ cm.key (hb_gc.at rfl) (by show gc ≠ gx; omega) (by omega) kv 54 cl54 (fun w => kv_any w _))) rfl rfl rfl ?_
  rintro v w1 ⟨rfl, ⟨A64, c64, hN64, ho64⟩, hg64⟩
  have hz_hg64 := hg64.size
  replace hb_gc := hb_gc.gr hg64 (by intro e; cases e; omega)
  replace hV := hV.gr hg64 (fun _ e => by cases e; omega)
  replace hKs := hKs.gr hg64 (fun _ e => by cases e; omega)
  replace hTs := hTs.gr hg64 (fun _ e => by cases e; omega)
  replace hG := hG.gr hg64 (fun _ e => by first | exact .inl e | (cases e; right; omega))
  replace hb_gx := hN64
  have hq_ho64 := fun g e => Own.lt ho64 (g := g) e
  have hl64 : (([] : List UInt8) ++ pb cm.key).length = (([] : List UInt8)).length + (pb cm.key).length := List.length_append
  have hlp64 := len_pb cm.key
  have hle64 := enc_len (cm.key).length
  refine q_nil (k_then (wc_regionL ?_))
  refine vm rfl rfl ?_
  refine wl_step (or_call0 cl58 rfl rfl (lifew _ gx gc A64 c64 (([] : List UInt8) ++ pb cm.key) (false || !kv cm.key) hb_gx ho64 (by omega) cm K ck V cv T ct hb_gc (by omega) (by omega))) rfl rfl rfl ?_
  rintro v w2 ⟨rfl, ⟨A66, c66, hN66, ho66⟩, hg66⟩
  have hz_hg66 := hg66.size
  replace hb_gc := hb_gc.gr hg66 (by intro e; cases e; omega)
  replace hV := hV.gr hg66 (fun _ e => by cases e; omega)
  replace hKs := hKs.gr hg66 (fun _ e => by cases e; omega)
  replace hTs := hTs.gr hg66 (fun _ e => by cases e; omega)
  replace hG := hG.gr hg66 (fun _ e => by first | exact .inl e | (cases e; right; omega))
  replace hb_gx := hN66
  have hq_ho66 := fun g e => Own.lt ho66 (g := g) e
  have hl66_ : ((([] : List UInt8) ++ pb cm.key) ++ enc cm.life).length = ((([] : List UInt8) ++ pb cm.key)).length + (enc cm.life).length := List.length_append
  have hle66_ := enc_len cm.life
  refine q_nil (k_block ?_)
  refine e_end0 rfl ?_
  have e : wfold cm = (((([] : List UInt8) ++ pb cm.key) ++ enc cm.life), ((false || !kv cm.key) || decide (cm.life = 0))) := by unfold wfold; rw [hop]; rfl
  rw [e]
  exact ⟨rfl, ⟨A66, c66, hb_gx, ho66⟩, hG⟩

theorem partsw_7 (w : World) (gx gc : Nat) (hb_gx : Blk w gx 92 [.pointer (some ⟨gc, 0, none⟩), .pointer none, .slice none ([] : List UInt8).length 0, .bool false]) (cm : Cmd) (K : Option Addr) (ck : Nat) (V : Option Addr) (cv : Nat) (T : Option Addr) (ct : Nat) (hb_gc : Blk w gc 58 (cmdc cm K ck V cv T ct)) (hgc : gc ≠ gx) (lov hiv : Nat) (hV : RdB w lov hiv V cv cm.value) (hVx : gx < lov ∨ hiv ≤ gx) (hVh : hiv ≤ w.heap.size) (lok hik : Nat) (hKs : RdS w lok hik K ck cm.keys) (hKx : gx < lok ∨ hik ≤ gx) (hKh : hik ≤ w.heap.size) (lot hit : Nat) (hTs : RdS w lot hit T ct cm.tags) (hTx : gx < lot ∨ hit ≤ gx) (hTh : hit ≤ w.heap.size) (hlf : cm.life < 18446744073709551616) (hvr : cm.ver < 18446744073709551616) (hsz : csz cm ≤ 17592186044416) (hop : cm.op = 7) :
    Fn Try.prog 40 #[(.pointer (some ⟨gx, 0, none⟩))] w (fun v w' => v = .tuple #[] ∧ (∃ A' c', Blk w' gx 92 [.pointer (some ⟨gc, 0, none⟩), .pointer none, .slice A' ((wfold cm).1).length c', .bool (wfold cm).2] ∧ OwnB w' (gx + 1) 5 A' c' ((wfold cm).1)) ∧ Gr w w' (some gx))  := by
  have hG := (ext_refl w).row (some gx)
  have hgxl := hb_gx.lt
  have hgcl := hb_gc.lt
  have hn0 : ([] : List UInt8).length = 0 := rfl
  simp only [csz] at hsz
  refine fn_enter (args := [(.pointer (some ⟨gx, 0, none⟩))]) Try.func40 rfl rfl rfl ?_
  show WC _ _ _ _ [(0, (.pointer (some ⟨gx, 0, none⟩)))] _
  refine wc_seq (wc_regionL ?_)
  refine vm rfl rfl ?_
  refine vn rfl rfl ?_
  refine wl_val (ov_field0 (off := 0) fo92_0 rfl) rfl rfl rfl ?_
  refine wl_val (ov_loadAt oc90 rfl hb_gx rfl) rfl rfl rfl ?_
  refine va rfl rfl ?_
  refine q_nil (k_then (wc_seq (wc_regionL ?_)))
  refine vm rfl rfl ?_
  refine vn rfl rfl ?_
  refine wl_val (ov_field0 (off := 0) fo58_0 rfl) rfl rfl rfl ?_
  refine wl_val (ov_loadAt oc22 rfl hb_gc rfl) rfl rfl rfl ?_
  refine wl_spell (d := 10) rfl (v' := (.int .i64 7)) (by rw [hop]) ?_
  refine q_nil (k_then (wc_block (wc_seq (wc_seq (wc_regionL ?_)))))
  refine ve rfl rfl rfl ?_
  refine va rfl rfl ?_
  refine q_nil (k_then ?_)
  refine wc_cond_f rfl ?_
  refine wc_seq (wc_regionL ?_)
  refine ve rfl rfl rfl ?_
  refine va rfl rfl ?_
  refine q_nil (k_then ?_)
  refine wc_cond_f rfl ?_
  refine wc_regionL ?_
  refine ve rfl rfl rfl ?_
  refine va rfl rfl ?_
  refine q_nil (k_then ?_)
  refine wc_cond_f rfl ?_
  refine wc_seq (wc_seq (wc_regionL ?_))
  refine ve rfl rfl rfl ?_
  refine va rfl rfl ?_
  refine q_nil (k_then ?_)
  refine wc_cond_f rfl ?_
  refine wc_seq (wc_regionL ?_)
  refine ve rfl rfl rfl ?_
  refine va rfl rfl ?_
  refine q_nil (k_then ?_)
  refine wc_cond_t rfl ?_
  refine q_skip (k_then ?_)
  refine wc_cond_t rfl ?_
  refine wc_regionL ?_
  iterate 2 refine vm rfl rfl ?_
  refine vn rfl rfl ?_
  refine wl_val (ov_field0 (off := 1) fo58_1 rfl) rfl rfl rfl ?_
  refine wl_step (or_call0 cl53 rfl rfl (partw _ gx gc none 0 ([] : List UInt8) false hb_gx (Own.nil_ _ _ _ _) (by omega) ⟨gc, 1, none⟩ cm.key (hb_gc.at rfl) (by show gc ≠ gx; omega) (by omega) kv 54 cl54 (fun w => kv_any w _))) rfl rfl rfl ?_
  rintro v w1 ⟨rfl, ⟨A50, c50, hN50, ho50⟩, hg50⟩
  have hz_hg50 := hg50.size
  replace hb_gc := hb_gc.gr hg50 (by intro e; cases e; omega)
  replace hV := hV.gr hg50 (fun _ e => by cases e; omega)
  replace hKs := hKs.gr hg50 (fun _ e => by cases e; omega)
  replace hTs := hTs.gr hg50 (fun _ e => by cases e; omega)
  replace hG := hG.gr hg50 (fun _ e => by first | exact .inl e | (cases e; right; omega))
  replace hb_gx := hN50
  have hq_ho50 := fun g e => Own.lt ho50 (g := g) e
  have hl50 : (([] : List UInt8) ++ pb cm.key).length = (([] : List UInt8)).length + (pb cm.key).length := List.length_append
  have hlp50 := len_pb cm.key
  have hle50 := enc_len (cm.key).length
  refine q_nil (k_block ?_)
  refine e_end0 rfl ?_
  have e : wfold cm = ((([] : List UInt8) ++ pb cm.key), (false || !kv cm.key)) := by unfold wfold; rw [hop]; rfl
  rw [e]
  exact ⟨rfl, ⟨A50, c50, hb_gx, ho50⟩, hG⟩

theorem partsw_8 (w : World) (gx gc : Nat) (hb_gx : Blk w gx 92 [.pointer (some ⟨gc, 0, none⟩), .pointer none, .slice none ([] : List UInt8).length 0, .bool false]) (cm : Cmd) (K : Option Addr) (ck : Nat) (V : Option Addr) (cv : Nat) (T : Option Addr) (ct : Nat) (hb_gc : Blk w gc 58 (cmdc cm K ck V cv T ct)) (hgc : gc ≠ gx) (lov hiv : Nat) (hV : RdB w lov hiv V cv cm.value) (hVx : gx < lov ∨ hiv ≤ gx) (hVh : hiv ≤ w.heap.size) (lok hik : Nat) (hKs : RdS w lok hik K ck cm.keys) (hKx : gx < lok ∨ hik ≤ gx) (hKh : hik ≤ w.heap.size) (lot hit : Nat) (hTs : RdS w lot hit T ct cm.tags) (hTx : gx < lot ∨ hit ≤ gx) (hTh : hit ≤ w.heap.size) (hlf : cm.life < 18446744073709551616) (hvr : cm.ver < 18446744073709551616) (hsz : csz cm ≤ 17592186044416) (hop : cm.op = 8) :
    Fn Try.prog 40 #[(.pointer (some ⟨gx, 0, none⟩))] w (fun v w' => v = .tuple #[] ∧ (∃ A' c', Blk w' gx 92 [.pointer (some ⟨gc, 0, none⟩), .pointer none, .slice A' ((wfold cm).1).length c', .bool (wfold cm).2] ∧ OwnB w' (gx + 1) 5 A' c' ((wfold cm).1)) ∧ Gr w w' (some gx))  := by
  have hG := (ext_refl w).row (some gx)
  have hgxl := hb_gx.lt
  have hgcl := hb_gc.lt
  have hn0 : ([] : List UInt8).length = 0 := rfl
  simp only [csz] at hsz
  refine fn_enter (args := [(.pointer (some ⟨gx, 0, none⟩))]) Try.func40 rfl rfl rfl ?_
  show WC _ _ _ _ [(0, (.pointer (some ⟨gx, 0, none⟩)))] _
  refine wc_seq (wc_regionL ?_)
  refine vm rfl rfl ?_
  refine vn rfl rfl ?_
  refine wl_val (ov_field0 (off := 0) fo92_0 rfl) rfl rfl rfl ?_
  refine wl_val (ov_loadAt oc90 rfl hb_gx rfl) rfl rfl rfl ?_
  refine va rfl rfl ?_
  refine q_nil (k_then (wc_seq (wc_regionL ?_)))
  refine vm rfl rfl ?_
  refine vn rfl rfl ?_
  refine wl_val (ov_field0 (off := 0) fo58_0 rfl) rfl rfl rfl ?_
  refine wl_val (ov_loadAt oc22 rfl hb_gc rfl) rfl rfl rfl ?_
  refine wl_spell (d := 10) rfl (v' := (.int .i64 8)) (by rw [hop]) ?_
  refine q_nil (k_then (wc_block (wc_seq (wc_seq (wc_regionL ?_)))))
  refine ve rfl rfl rfl ?_
  refine va rfl rfl ?_
  refine q_nil (k_then ?_)
  refine wc_cond_f rfl ?_
  refine wc_seq (wc_regionL ?_)
  refine ve rfl rfl rfl ?_
  refine va rfl rfl ?_
  refine q_nil (k_then ?_)
  refine wc_cond_f rfl ?_
  refine wc_regionL ?_
  refine ve rfl rfl rfl ?_
  refine va rfl rfl ?_
  refine q_nil (k_then ?_)
  refine wc_cond_f rfl ?_
  refine wc_seq (wc_seq (wc_regionL ?_))
  refine ve rfl rfl rfl ?_
  refine va rfl rfl ?_
  refine q_nil (k_then ?_)
  refine wc_cond_f rfl ?_
  refine wc_seq (wc_regionL ?_)
  refine ve rfl rfl rfl ?_
  refine va rfl rfl ?_
  refine q_nil (k_then ?_)
  refine wc_cond_f rfl ?_
  refine wc_regionL ?_
  refine ve rfl rfl rfl ?_
  refine va rfl rfl ?_
  refine q_nil (k_then ?_)
  refine wc_cond_f rfl ?_
  refine wc_seq (wc_regionL ?_)
  refine ve rfl rfl rfl ?_
  refine va rfl rfl ?_
  refine q_nil (k_then ?_)
  refine wc_cond_f rfl ?_
  refine wc_seq (wc_regionL ?_)
  refine ve rfl rfl rfl ?_
  refine va rfl rfl ?_
  refine q_nil (k_then ?_)
  refine wc_cond_f rfl ?_
  refine wc_seq (wc_seq (wc_regionL ?_))
  refine ve rfl rfl rfl ?_
  refine va rfl rfl ?_
  refine q_nil (k_then ?_)
  refine wc_cond_t rfl ?_
  refine q_skip (k_then ?_)
  refine wc_cond_t rfl ?_
  refine wc_regionL ?_
  iterate 2 refine vm rfl rfl ?_
  refine vn rfl rfl ?_
  refine wl_val (ov_field0 (off := 7) fo58_7 rfl) rfl rfl rfl ?_
  refine wl_step (or_call0 cl53 rfl rfl (partw _ gx gc none 0 ([] : List UInt8) false hb_gx (Own.nil_ _ _ _ _) (by omega) ⟨gc, 7, none⟩ cm.tag (hb_gc.at rfl) (by show gc ≠ gx; omega) (by omega) tv 57 cl57 (fun w => tv_any w _))) rfl rfl rfl ?_
  rintro v w1 ⟨rfl, ⟨A74, c74, hN74, ho74⟩, hg74⟩
  have hz_hg74 := hg74.size
  replace hb_gc := hb_gc.gr hg74 (by intro e; cases e; omega)
  replace hV := hV.gr hg74 (fun _ e => by cases e; omega)
  replace hKs := hKs.gr hg74 (fun _ e => by cases e; omega)
  replace hTs := hTs.gr hg74 (fun _ e => by cases e; omega)
  replace hG := hG.gr hg74 (fun _ e => by first | exact .inl e | (cases e; right; omega))
  replace hb_gx := hN74
  have hq_ho74 := fun g e => Own.lt ho74 (g := g) e
  have hl74 : (([] : List UInt8) ++ pb cm.tag).length = (([] : List UInt8)).length + (pb cm.tag).length := List.length_append
  have hlp74 := len_pb cm.tag
  have hle74 := enc_len (cm.tag).length
  refine q_nil (k_block ?_)
  refine e_end0 rfl ?_
  have e : wfold cm = ((([] : List UInt8) ++ pb cm.tag), (false || !tv cm.tag)) := by unfold wfold; rw [hop]; rfl
  rw [e]
  exact ⟨rfl, ⟨A74, c74, hb_gx, ho74⟩, hG⟩

theorem partsw_9 (w : World) (gx gc : Nat) (hb_gx : Blk w gx 92 [.pointer (some ⟨gc, 0, none⟩), .pointer none, .slice none ([] : List UInt8).length 0, .bool false]) (cm : Cmd) (K : Option Addr) (ck : Nat) (V : Option Addr) (cv : Nat) (T : Option Addr) (ct : Nat) (hb_gc : Blk w gc 58 (cmdc cm K ck V cv T ct)) (hgc : gc ≠ gx) (lov hiv : Nat) (hV : RdB w lov hiv V cv cm.value) (hVx : gx < lov ∨ hiv ≤ gx) (hVh : hiv ≤ w.heap.size) (lok hik : Nat) (hKs : RdS w lok hik K ck cm.keys) (hKx : gx < lok ∨ hik ≤ gx) (hKh : hik ≤ w.heap.size) (lot hit : Nat) (hTs : RdS w lot hit T ct cm.tags) (hTx : gx < lot ∨ hit ≤ gx) (hTh : hit ≤ w.heap.size) (hlf : cm.life < 18446744073709551616) (hvr : cm.ver < 18446744073709551616) (hsz : csz cm ≤ 17592186044416) (hop : cm.op = 9) :
    Fn Try.prog 40 #[(.pointer (some ⟨gx, 0, none⟩))] w (fun v w' => v = .tuple #[] ∧ (∃ A' c', Blk w' gx 92 [.pointer (some ⟨gc, 0, none⟩), .pointer none, .slice A' ((wfold cm).1).length c', .bool (wfold cm).2] ∧ OwnB w' (gx + 1) 5 A' c' ((wfold cm).1)) ∧ Gr w w' (some gx))  := by
  have hG := (ext_refl w).row (some gx)
  have hgxl := hb_gx.lt
  have hgcl := hb_gc.lt
  have hn0 : ([] : List UInt8).length = 0 := rfl
  simp only [csz] at hsz
  refine fn_enter (args := [(.pointer (some ⟨gx, 0, none⟩))]) Try.func40 rfl rfl rfl ?_
  show WC _ _ _ _ [(0, (.pointer (some ⟨gx, 0, none⟩)))] _
  refine wc_seq (wc_regionL ?_)
  refine vm rfl rfl ?_
  refine vn rfl rfl ?_
  refine wl_val (ov_field0 (off := 0) fo92_0 rfl) rfl rfl rfl ?_
  refine wl_val (ov_loadAt oc90 rfl hb_gx rfl) rfl rfl rfl ?_
  refine va rfl rfl ?_
  refine q_nil (k_then (wc_seq (wc_regionL ?_)))
  refine vm rfl rfl ?_
  refine vn rfl rfl ?_
  refine wl_val (ov_field0 (off := 0) fo58_0 rfl) rfl rfl rfl ?_
  refine wl_val (ov_loadAt oc22 rfl hb_gc rfl) rfl rfl rfl ?_
  refine wl_spell (d := 10) rfl (v' := (.int .i64 9)) (by rw [hop]) ?_
  refine q_nil (k_then (wc_block (wc_seq (wc_seq (wc_regionL ?_)))))
  refine ve rfl rfl rfl ?_
  refine va rfl rfl ?_
  refine q_nil (k_then ?_)
  refine wc_cond_f rfl ?_
  refine wc_seq (wc_regionL ?_)
  refine ve rfl rfl rfl ?_
  refine va rfl rfl ?_
  refine q_nil (k_then ?_)
  refine wc_cond_f rfl ?_
  refine wc_regionL ?_
  refine ve rfl rfl rfl ?_
  refine va rfl rfl ?_
  refine q_nil (k_then ?_)
  refine wc_cond_f rfl ?_
  refine wc_seq (wc_seq (wc_regionL ?_))
  refine ve rfl rfl rfl ?_
  refine va rfl rfl ?_
  refine q_nil (k_then ?_)
  refine wc_cond_f rfl ?_
  refine wc_seq (wc_regionL ?_)
  refine ve rfl rfl rfl ?_
  refine va rfl rfl ?_
  refine q_nil (k_then ?_)
  refine wc_cond_f rfl ?_
  refine wc_regionL ?_
  refine ve rfl rfl rfl ?_
  refine va rfl rfl ?_
  refine q_nil (k_then ?_)
  refine wc_cond_f rfl ?_
  refine wc_seq (wc_regionL ?_)
  refine ve rfl rfl rfl ?_
  refine va rfl rfl ?_
  refine q_nil (k_then ?_)
  refine wc_cond_f rfl ?_
  refine wc_seq (wc_regionL ?_)
  refine ve rfl rfl rfl ?_
  refine va rfl rfl ?_
  refine q_nil (k_then ?_)
  refine wc_cond_f rfl ?_
  refine wc_seq (wc_seq (wc_regionL ?_))
  refine ve rfl rfl rfl ?_
  refine va rfl rfl ?_
  refine q_nil (k_then ?_)
  refine wc_cond_f rfl ?_
  refine wc_regionL ?_
  refine ve rfl rfl rfl ?_
  refine va rfl rfl ?_
  refine q_nil (k_then ?_)
  refine wc_cond_t rfl ?_
  refine wc_regionL ?_
  iterate 2 refine vm rfl rfl ?_
  refine vn rfl rfl ?_
  refine wl_val (ov_field0 (off := 7) fo58_7 rfl) rfl rfl rfl ?_
  refine wl_step (or_call0 cl53 rfl rfl (partw _ gx gc none 0 ([] : List UInt8) false hb_gx (Own.nil_ _ _ _ _) (by omega) ⟨gc, 7, none⟩ cm.tag (hb_gc.at rfl) (by show gc ≠ gx; omega) (by omega) tv 57 cl57 (fun w => tv_any w _))) rfl rfl rfl ?_
  rintro v w1 ⟨rfl, ⟨A74, c74, hN74, ho74⟩, hg74⟩
  have hz_hg74 := hg74.size
  replace hb_gc := hb_gc.gr hg74 (by intro e; cases e; omega)
  replace hV := hV.gr hg74 (fun _ e => by cases e; omega)
  replace hKs := hKs.gr hg74 (fun _ e => by cases e; omega)
  replace hTs := hTs.gr hg74 (fun _ e => by cases e; omega)
  replace hG := hG.gr hg74 (fun _ e => by first | exact .inl e | (cases e; right; omega))
  replace hb_gx := hN74
  have hq_ho74 := fun g e => Own.lt ho74 (g := g) e
  have hl74 : (([] : List UInt8) ++ pb cm.tag).length = (([] : List UInt8)).length + (pb cm.tag).length := List.length_append
  have hlp74 := len_pb cm.tag
  have hle74 := enc_len (cm.tag).length
  refine q_nil (k_block ?_)
  refine e_end0 rfl ?_
  have e : wfold cm = ((([] : List UInt8) ++ pb cm.tag), (false || !tv cm.tag)) := by unfold wfold; rw [hop]; rfl
  rw [e]
  exact ⟨rfl, ⟨A74, c74, hb_gx, ho74⟩, hG⟩

theorem partsw_10 (w : World) (gx gc : Nat) (hb_gx : Blk w gx 92 [.pointer (some ⟨gc, 0, none⟩), .pointer none, .slice none ([] : List UInt8).length 0, .bool false]) (cm : Cmd) (K : Option Addr) (ck : Nat) (V : Option Addr) (cv : Nat) (T : Option Addr) (ct : Nat) (hb_gc : Blk w gc 58 (cmdc cm K ck V cv T ct)) (hgc : gc ≠ gx) (lov hiv : Nat) (hV : RdB w lov hiv V cv cm.value) (hVx : gx < lov ∨ hiv ≤ gx) (hVh : hiv ≤ w.heap.size) (lok hik : Nat) (hKs : RdS w lok hik K ck cm.keys) (hKx : gx < lok ∨ hik ≤ gx) (hKh : hik ≤ w.heap.size) (lot hit : Nat) (hTs : RdS w lot hit T ct cm.tags) (hTx : gx < lot ∨ hit ≤ gx) (hTh : hit ≤ w.heap.size) (hlf : cm.life < 18446744073709551616) (hvr : cm.ver < 18446744073709551616) (hsz : csz cm ≤ 17592186044416) (hop : cm.op = 10) :
    Fn Try.prog 40 #[(.pointer (some ⟨gx, 0, none⟩))] w (fun v w' => v = .tuple #[] ∧ (∃ A' c', Blk w' gx 92 [.pointer (some ⟨gc, 0, none⟩), .pointer none, .slice A' ((wfold cm).1).length c', .bool (wfold cm).2] ∧ OwnB w' (gx + 1) 5 A' c' ((wfold cm).1)) ∧ Gr w w' (some gx))  := by
  have hG := (ext_refl w).row (some gx)
  have hgxl := hb_gx.lt
  have hgcl := hb_gc.lt
  have hn0 : ([] : List UInt8).length = 0 := rfl
  simp only [csz] at hsz
  refine fn_enter (args := [(.pointer (some ⟨gx, 0, none⟩))]) Try.func40 rfl rfl rfl ?_
  show WC _ _ _ _ [(0, (.pointer (some ⟨gx, 0, none⟩)))] _
  refine wc_seq (wc_regionL ?_)
  refine vm rfl rfl ?_
  refine vn rfl rfl ?_
  refine wl_val (ov_field0 (off := 0) fo92_0 rfl) rfl rfl rfl ?_
  refine wl_val (ov_loadAt oc90 rfl hb_gx rfl) rfl rfl rfl ?_
  refine va rfl rfl ?_
  refine q_nil (k_then (wc_seq (wc_regionL ?_)))
  refine vm rfl rfl ?_
  refine vn rfl rfl ?_
  refine wl_val (ov_field0 (off := 0) fo58_0 rfl) rfl rfl rfl ?_
  refine wl_val (ov_loadAt oc22 rfl hb_gc rfl) rfl rfl rfl ?_
  refine wl_spell (d := 10) rfl (v' := (.int .i64 10)) (by rw [hop]) ?_
  refine q_nil (k_then (wc_block (wc_seq (wc_seq (wc_regionL ?_)))))
  refine ve rfl rfl rfl ?_
  refine va rfl rfl ?_
  refine q_nil (k_then ?_)
  refine wc_cond_f rfl ?_
  refine wc_seq (wc_regionL ?_)
  refine ve rfl rfl rfl ?_
  refine va rfl rfl ?_
  refine q_nil (k_then ?_)
  refine wc_cond_f rfl ?_
  refine wc_regionL ?_
  refine ve rfl rfl rfl ?_
  refine va rfl rfl ?_
  refine q_nil (k_then ?_)
  refine wc_cond_f rfl ?_
  refine wc_seq (wc_seq (wc_regionL ?_))
  refine ve rfl rfl rfl ?_
  refine va rfl rfl ?_
  refine q_nil (k_then ?_)
  refine wc_cond_f rfl ?_
  refine wc_seq (wc_regionL ?_)
  refine ve rfl rfl rfl ?_
  refine va rfl rfl ?_
  refine q_nil (k_then ?_)
  refine wc_cond_f rfl ?_
  refine wc_regionL ?_
  refine ve rfl rfl rfl ?_
  refine va rfl rfl ?_
  refine q_nil (k_then ?_)
  refine wc_cond_f rfl ?_
  refine wc_seq (wc_regionL ?_)
  refine ve rfl rfl rfl ?_
  refine va rfl rfl ?_
  refine q_nil (k_then ?_)
  refine wc_cond_f rfl ?_
  refine wc_seq (wc_regionL ?_)
  refine ve rfl rfl rfl ?_
  refine va rfl rfl ?_
  refine q_nil (k_then ?_)
  refine wc_cond_f rfl ?_
  refine wc_seq (wc_seq (wc_regionL ?_))
  refine ve rfl rfl rfl ?_
  refine va rfl rfl ?_
  refine q_nil (k_then ?_)
  refine wc_cond_f rfl ?_
  refine wc_regionL ?_
  refine ve rfl rfl rfl ?_
  refine va rfl rfl ?_
  refine q_nil (k_then ?_)
  refine wc_cond_f rfl ?_
  refine wc_seq (wc_regionL ?_)
  refine ve rfl rfl rfl ?_
  refine va rfl rfl ?_
  refine q_nil (k_then ?_)
  refine wc_cond_t rfl ?_
  refine wc_regionL ?_
  iterate 2 refine vm rfl rfl ?_
  refine vn rfl rfl ?_
  refine wl_val (ov_field0 (off := 8) fo58_8 rfl) rfl rfl rfl ?_
  refine wl_step (or_call0 cl53 rfl rfl (partw _ gx gc none 0 ([] : List UInt8) false hb_gx (Own.nil_ _ _ _ _) (by omega) ⟨gc, 8, none⟩ cm.pre (hb_gc.at rfl) (by show gc ≠ gx; omega) (by omega) pv 60 cl60 (fun w => pv_any w _))) rfl rfl rfl ?_
  rintro v w1 ⟨rfl, ⟨A81, c81, hN81, ho81⟩, hg81⟩
  have hz_hg81 := hg81.size
  replace hb_gc := hb_gc.gr hg81 (by intro e; cases e; omega)
  replace hV := hV.gr hg81 (fun _ e => by cases e; omega)
  replace hKs := hKs.gr hg81 (fun _ e => by cases e; omega)
  replace hTs := hTs.gr hg81 (fun _ e => by cases e; omega)
  replace hG := hG.gr hg81 (fun _ e => by first | exact .inl e | (cases e; right; omega))
  replace hb_gx := hN81
  have hq_ho81 := fun g e => Own.lt ho81 (g := g) e
  have hl81 : (([] : List UInt8) ++ pb cm.pre).length = (([] : List UInt8)).length + (pb cm.pre).length := List.length_append
  have hlp81 := len_pb cm.pre
  have hle81 := enc_len (cm.pre).length
  refine q_nil (k_block ?_)
  refine e_end0 rfl ?_
  have e : wfold cm = ((([] : List UInt8) ++ pb cm.pre), (false || !pv cm.pre)) := by unfold wfold; rw [hop]; rfl
  rw [e]
  exact ⟨rfl, ⟨A81, c81, hb_gx, ho81⟩, hG⟩

theorem partsw_11 (w : World) (gx gc : Nat) (hb_gx : Blk w gx 92 [.pointer (some ⟨gc, 0, none⟩), .pointer none, .slice none ([] : List UInt8).length 0, .bool false]) (cm : Cmd) (K : Option Addr) (ck : Nat) (V : Option Addr) (cv : Nat) (T : Option Addr) (ct : Nat) (hb_gc : Blk w gc 58 (cmdc cm K ck V cv T ct)) (hgc : gc ≠ gx) (lov hiv : Nat) (hV : RdB w lov hiv V cv cm.value) (hVx : gx < lov ∨ hiv ≤ gx) (hVh : hiv ≤ w.heap.size) (lok hik : Nat) (hKs : RdS w lok hik K ck cm.keys) (hKx : gx < lok ∨ hik ≤ gx) (hKh : hik ≤ w.heap.size) (lot hit : Nat) (hTs : RdS w lot hit T ct cm.tags) (hTx : gx < lot ∨ hit ≤ gx) (hTh : hit ≤ w.heap.size) (hlf : cm.life < 18446744073709551616) (hvr : cm.ver < 18446744073709551616) (hsz : csz cm ≤ 17592186044416) (hop : cm.op = 11) :
    Fn Try.prog 40 #[(.pointer (some ⟨gx, 0, none⟩))] w (fun v w' => v = .tuple #[] ∧ (∃ A' c', Blk w' gx 92 [.pointer (some ⟨gc, 0, none⟩), .pointer none, .slice A' ((wfold cm).1).length c', .bool (wfold cm).2] ∧ OwnB w' (gx + 1) 5 A' c' ((wfold cm).1)) ∧ Gr w w' (some gx))  := by
  have hG := (ext_refl w).row (some gx)
  have hgxl := hb_gx.lt
  have hgcl := hb_gc.lt
  have hn0 : ([] : List UInt8).length = 0 := rfl
  simp only [csz] at hsz
  refine fn_enter (args := [(.pointer (some ⟨gx, 0, none⟩))]) Try.func40 rfl rfl rfl ?_
  show WC _ _ _ _ [(0, (.pointer (some ⟨gx, 0, none⟩)))] _
  refine wc_seq (wc_regionL ?_)
  refine vm rfl rfl ?_
  refine vn rfl rfl ?_
  refine wl_val (ov_field0 (off := 0) fo92_0 rfl) rfl rfl rfl ?_
  refine wl_val (ov_loadAt oc90 rfl hb_gx rfl) rfl rfl rfl ?_
  refine va rfl rfl ?_
  refine q_nil (k_then (wc_seq (wc_regionL ?_)))
  refine vm rfl rfl ?_
  refine vn rfl rfl ?_
  refine wl_val (ov_field0 (off := 0) fo58_0 rfl) rfl rfl rfl ?_
  refine wl_val (ov_loadAt oc22 rfl hb_gc rfl) rfl rfl rfl ?_
  refine wl_spell (d := 10) rfl (v' := (.int .i64 11)) (by rw [hop]) ?_
  refine q_nil (k_then (wc_block (wc_seq (wc_seq (wc_regionL ?_)))))
  refine ve rfl rfl rfl ?_
  refine va rfl rfl ?_
  refine q_nil (k_then ?_)
  refine wc_cond_f rfl ?_
  refine wc_seq (wc_regionL ?_)
  refine ve rfl rfl rfl ?_
  refine va rfl rfl ?_
  refine q_nil (k_then ?_)
  refine wc_cond_f rfl ?_
  refine wc_regionL ?_
  refine ve rfl rfl rfl ?_
  refine va rfl rfl ?_
  refine q_nil (k_then ?_)
  refine wc_cond_f rfl ?_
  refine wc_seq (wc_seq (wc_regionL ?_))
  refine ve rfl rfl rfl ?_
  refine va rfl rfl ?_
  refine q_nil (k_then ?_)
  refine wc_cond_f rfl ?_
  refine wc_seq (wc_regionL ?_)
  refine ve rfl rfl rfl ?_
  refine va rfl rfl ?_
  refine q_nil (k_then ?_)
  refine wc_cond_f rfl ?_
  refine wc_regionL ?_
  refine ve rfl rfl rfl ?_
  refine va rfl rfl ?_
  refine q_nil (k_then ?_)
  refine wc_cond_f rfl ?_
  refine wc_seq (wc_regionL ?_)
  refine ve rfl rfl rfl ?_
  refine va rfl rfl ?_
  refine q_nil (k_then ?_)
  refine wc_cond_f rfl ?_
  refine wc_seq (wc_regionL ?_)
  refine ve rfl rfl rfl ?_
  refine va rfl rfl ?_
  refine q_nil (k_then ?_)
  refine wc_cond_f rfl ?_
  refine wc_seq (wc_seq (wc_regionL ?_))
  refine ve rfl rfl rfl ?_
  refine va rfl rfl ?_
  refine q_nil (k_then ?_)
  refine wc_cond_f rfl ?_
  refine wc_regionL ?_
  refine ve rfl rfl rfl ?_
  refine va rfl rfl ?_
  refine q_nil (k_then ?_)
  refine wc_cond_f rfl ?_
  refine wc_seq (wc_regionL ?_)
  refine ve rfl rfl rfl ?_
  refine va rfl rfl ?_
  refine q_nil (k_then ?_)
  refine wc_cond_f rfl ?_
  refine wc_seq (wc_seq (wc_regionL ?_))
  refine ve rfl rfl rfl ?_
  refine va rfl rfl ?_
  refine q_nil (k_then ?_)
  refine wc_cond_t rfl ?_
  refine q_skip (k_then ?_)
  refine wc_cond_t rfl ?_
  refine wc_seq (wc_regionL ?_)
  iterate 2 refine vm rfl rfl ?_
  refine vn rfl rfl ?_
  refine wl_val (ov_field0 (off := 1) fo58_1 rfl) rfl rfl rfl ?_
  refine wl_step (or_call0 cl53 rfl rfl (partw _ gx gc none 0 ([] : List UInt8) false hb_gx (Own.nil_ _ _ _ _) (by omega) ⟨gc, 1, none⟩ cm.key (hb_gc.at rfl) (by show gc ≠ gx; omega) (by omega) kv 54 cl54 (fun w => kv_any w _))) rfl rfl rfl ?_
  rintro v w1 ⟨rfl, ⟨A89, c89, hN89, ho89⟩, hg89⟩
  have hz_hg89 := hg89.size
  replace hb_gc := hb_gc.gr hg89 (by intro e; cases e; omega)
  replace hV := hV.gr hg89 (fun _ e => by cases e; omega)
  replace hKs := hKs.gr hg89 (fun _ e => by cases e; omega)
  replace hTs := hTs.gr hg89 (fun _ e => by cases e; omega)
  replace hG := hG.gr hg89 (fun _ e => by first | exact .inl e | (cases e; right; omega))
  replace hb_gx := hN89
  have hq_ho89 := fun g e => Own.lt ho89 (g := g) e
  have hl89 : (([] : List UInt8) ++ pb cm.key).length = (([] : List UInt8)).length + (pb cm.key).length := List.length_append
  have hlp89 := len_pb cm.key
  have hle89 := enc_len (cm.key).length
  refine q_nil (k_then (wc_regionL ?_))
  iterate 2 refine vm rfl rfl ?_
  refine vn rfl rfl ?_
  refine wl_val (ov_field0 (off := 9) fo58_9 rfl) rfl rfl rfl ?_
  refine wl_step (or_call0 cl53 rfl rfl (partw _ gx gc A89 c89 (([] : List UInt8) ++ pb cm.key) (false || !kv cm.key) hb_gx ho89 (by omega) ⟨gc, 9, none⟩ cm.child (hb_gc.at rfl) (by show gc ≠ gx; omega) (by omega) kv 54 cl54 (fun w => kv_any w _))) rfl rfl rfl ?_
  rintro v w2 ⟨rfl, ⟨A94, c94, hN94, ho94⟩, hg94⟩
  have hz_hg94 := hg94.size
  replace hb_gc := hb_gc.gr hg94 (by intro e; cases e; omega)
  replace hV := hV.gr hg94 (fun _ e => by cases e; omega)
  replace hKs := hKs.gr hg94 (fun _ e => by cases e; omega)
  replace hTs := hTs.gr hg94 (fun _ e => by cases e; omega)
  replace hG := hG.gr hg94 (fun _ e => by first | exact .inl e | (cases e; right; omega))
  replace hb_gx := hN94
  have hq_ho94 := fun g e => Own.lt ho94 (g := g) e
  have hl94 : ((([] : List UInt8) ++ pb cm.key) ++ pb cm.child).length = ((([] : List UInt8) ++ pb cm.key)).length + (pb cm.child).length := List.length_append
  have hlp94 := len_pb cm.child
  have hle94 := enc_len (cm.child).length
  refine q_nil (k_block ?_)
  refine e_end0 rfl ?_
  have e : wfold cm = (((([] : List UInt8) ++ pb cm.key) ++ pb cm.child), ((false || !kv cm.key) || !kv cm.child)) := by unfold wfold; rw [hop]; rfl
  rw [e]
  exact ⟨rfl, ⟨A94, c94, hb_gx, ho94⟩, hG⟩

theorem partsw_12 (w : World) (gx gc : Nat) (hb_gx : Blk w gx 92 [.pointer (some ⟨gc, 0, none⟩), .pointer none, .slice none ([] : List UInt8).length 0, .bool false]) (cm : Cmd) (K : Option Addr) (ck : Nat) (V : Option Addr) (cv : Nat) (T : Option Addr) (ct : Nat) (hb_gc : Blk w gc 58 (cmdc cm K ck V cv T ct)) (hgc : gc ≠ gx) (lov hiv : Nat) (hV : RdB w lov hiv V cv cm.value) (hVx : gx < lov ∨ hiv ≤ gx) (hVh : hiv ≤ w.heap.size) (lok hik : Nat) (hKs : RdS w lok hik K ck cm.keys) (hKx : gx < lok ∨ hik ≤ gx) (hKh : hik ≤ w.heap.size) (lot hit : Nat) (hTs : RdS w lot hit T ct cm.tags) (hTx : gx < lot ∨ hit ≤ gx) (hTh : hit ≤ w.heap.size) (hlf : cm.life < 18446744073709551616) (hvr : cm.ver < 18446744073709551616) (hsz : csz cm ≤ 17592186044416) (hop : cm.op = 12) :
    Fn Try.prog 40 #[(.pointer (some ⟨gx, 0, none⟩))] w (fun v w' => v = .tuple #[] ∧ (∃ A' c', Blk w' gx 92 [.pointer (some ⟨gc, 0, none⟩), .pointer none, .slice A' ((wfold cm).1).length c', .bool (wfold cm).2] ∧ OwnB w' (gx + 1) 5 A' c' ((wfold cm).1)) ∧ Gr w w' (some gx))  := by
  have hG := (ext_refl w).row (some gx)
  have hgxl := hb_gx.lt
  have hgcl := hb_gc.lt
  have hn0 : ([] : List UInt8).length = 0 := rfl
  simp only [csz] at hsz
  refine fn_enter (args := [(.pointer (some ⟨gx, 0, none⟩))]) Try.func40 rfl rfl rfl ?_
  show WC _ _ _ _ [(0, (.pointer (some ⟨gx, 0, none⟩)))] _
  refine wc_seq (wc_regionL ?_)
  refine vm rfl rfl ?_
  refine vn rfl rfl ?_
  refine wl_val (ov_field0 (off := 0) fo92_0 rfl) rfl rfl rfl ?_
  refine wl_val (ov_loadAt oc90 rfl hb_gx rfl) rfl rfl rfl ?_
  refine va rfl rfl ?_
  refine q_nil (k_then (wc_seq (wc_regionL ?_)))
  refine vm rfl rfl ?_
  refine vn rfl rfl ?_
  refine wl_val (ov_field0 (off := 0) fo58_0 rfl) rfl rfl rfl ?_
  refine wl_val (ov_loadAt oc22 rfl hb_gc rfl) rfl rfl rfl ?_
  refine wl_spell (d := 10) rfl (v' := (.int .i64 12)) (by rw [hop]) ?_
  refine q_nil (k_then (wc_block (wc_seq (wc_seq (wc_regionL ?_)))))
  refine ve rfl rfl rfl ?_
  refine va rfl rfl ?_
  refine q_nil (k_then ?_)
  refine wc_cond_f rfl ?_
  refine wc_seq (wc_regionL ?_)
  refine ve rfl rfl rfl ?_
  refine va rfl rfl ?_
  refine q_nil (k_then ?_)
  refine wc_cond_f rfl ?_
  refine wc_regionL ?_
  refine ve rfl rfl rfl ?_
  refine va rfl rfl ?_
  refine q_nil (k_then ?_)
  refine wc_cond_f rfl ?_
  refine wc_seq (wc_seq (wc_regionL ?_))
  refine ve rfl rfl rfl ?_
  refine va rfl rfl ?_
  refine q_nil (k_then ?_)
  refine wc_cond_f rfl ?_
  refine wc_seq (wc_regionL ?_)
  refine ve rfl rfl rfl ?_
  refine va rfl rfl ?_
  refine q_nil (k_then ?_)
  refine wc_cond_f rfl ?_
  refine wc_regionL ?_
  refine ve rfl rfl rfl ?_
  refine va rfl rfl ?_
  refine q_nil (k_then ?_)
  refine wc_cond_f rfl ?_
  refine wc_seq (wc_regionL ?_)
  refine ve rfl rfl rfl ?_
  refine va rfl rfl ?_
  refine q_nil (k_then ?_)
  refine wc_cond_f rfl ?_
  refine wc_seq (wc_regionL ?_)
  refine ve rfl rfl rfl ?_
  refine va rfl rfl ?_
  refine q_nil (k_then ?_)
  refine wc_cond_f rfl ?_
  refine wc_seq (wc_seq (wc_regionL ?_))
  refine ve rfl rfl rfl ?_
  refine va rfl rfl ?_
  refine q_nil (k_then ?_)
  refine wc_cond_f rfl ?_
  refine wc_regionL ?_
  refine ve rfl rfl rfl ?_
  refine va rfl rfl ?_
  refine q_nil (k_then ?_)
  refine wc_cond_f rfl ?_
  refine wc_seq (wc_regionL ?_)
  refine ve rfl rfl rfl ?_
  refine va rfl rfl ?_
  refine q_nil (k_then ?_)
  refine wc_cond_f rfl ?_
  refine wc_seq (wc_seq (wc_regionL ?_))
  refine ve rfl rfl rfl ?_
  refine va rfl rfl ?_
  refine q_nil (k_then ?_)
  refine wc_cond_f rfl ?_
  refine wc_regionL ?_
  refine ve rfl rfl rfl ?_
  refine va rfl rfl ?_
  refine q_nil (k_then ?_)
  refine wc_cond_t rfl ?_
  refine wc_seq (wc_regionL ?_)
  iterate 2 refine vm rfl rfl ?_
  refine vn rfl rfl ?_
  refine wl_val (ov_field0 (off := 1) fo58_1 rfl) rfl rfl rfl ?_
  refine wl_step (or_call0 cl53 rfl rfl (partw _ gx gc none 0 ([] : List UInt8) false hb_gx (Own.nil_ _ _ _ _) (by omega) ⟨gc, 1, none⟩ cm.key (hb_gc.at rfl) (by show gc ≠ gx; omega) (by omega) kv 54 cl54 (fun w => kv_any w _))) rfl rfl rfl ?_
  rintro v w1 ⟨rfl, ⟨A89, c89, hN89, ho89⟩, hg89⟩
  have hz_hg89 := hg89.size
  replace hb_gc := hb_gc.gr hg89 (by intro e; cases e; omega)
  replace hV := hV.gr hg89 (fun _ e => by cases e; omega)
  replace hKs := hKs.gr hg89 (fun _ e => by cases e; omega)
  replace hTs := hTs.gr hg89 (fun _ e => by cases e; omega)
  replace hG := hG.gr hg89 (fun _ e => by first | exact .inl e | (cases e; right; omega))
  replace hb_gx := hN89
  have hq_ho89 := fun g e => Own.lt ho89 (g := g) e
  have hl89 : (([] : List UInt8) ++ pb cm.key).length = (([] : List UInt8)).length + (pb cm.key).length := List.length_append
  have hlp89 := len_pb cm.key
  have hle89 := enc_len (cm.key).length
  refine q_nil (k_then (wc_regionL ?_))
  iterate 2 refine vm rfl rfl ?_
  refine vn rfl rfl ?_
  refine wl_val (ov_field0 (off := 9) fo58_9 rfl) rfl rfl rfl ?_
  refine wl_step (or_call0 cl53 rfl rfl (partw _ gx gc A89 c89 (([] : List UInt8) ++ pb cm.key) (false || !kv cm.key) hb_gx ho89 (by omega) ⟨gc, 9, none⟩ cm.child (hb_gc.at rfl) (by show gc ≠ gx; omega) (by omega) kv 54 cl54 (fun w => kv_any w _))) rfl rfl rfl ?_
  rintro v w2 ⟨rfl, ⟨A94, c94, hN94, ho94⟩, hg94⟩
  have hz_hg94 := hg94.size
  replace hb_gc := hb_gc.gr hg94 (by intro e; cases e; omega)
  replace hV := hV.gr hg94 (fun _ e => by cases e; omega)
  replace hKs := hKs.gr hg94 (fun _ e => by cases e; omega)
  replace hTs := hTs.gr hg94 (fun _ e => by cases e; omega)
  replace hG := hG.gr hg94 (fun _ e => by first | exact .inl e | (cases e; right; omega))
  replace hb_gx := hN94
  have hq_ho94 := fun g e => Own.lt ho94 (g := g) e
  have hl94 : ((([] : List UInt8) ++ pb cm.key) ++ pb cm.child).length = ((([] : List UInt8) ++ pb cm.key)).length + (pb cm.child).length := List.length_append
  have hlp94 := len_pb cm.child
  have hle94 := enc_len (cm.child).length
  refine q_nil (k_block ?_)
  refine e_end0 rfl ?_
  have e : wfold cm = (((([] : List UInt8) ++ pb cm.key) ++ pb cm.child), ((false || !kv cm.key) || !kv cm.child)) := by unfold wfold; rw [hop]; rfl
  rw [e]
  exact ⟨rfl, ⟨A94, c94, hb_gx, ho94⟩, hG⟩

theorem partsw_13 (w : World) (gx gc : Nat) (hb_gx : Blk w gx 92 [.pointer (some ⟨gc, 0, none⟩), .pointer none, .slice none ([] : List UInt8).length 0, .bool false]) (cm : Cmd) (K : Option Addr) (ck : Nat) (V : Option Addr) (cv : Nat) (T : Option Addr) (ct : Nat) (hb_gc : Blk w gc 58 (cmdc cm K ck V cv T ct)) (hgc : gc ≠ gx) (lov hiv : Nat) (hV : RdB w lov hiv V cv cm.value) (hVx : gx < lov ∨ hiv ≤ gx) (hVh : hiv ≤ w.heap.size) (lok hik : Nat) (hKs : RdS w lok hik K ck cm.keys) (hKx : gx < lok ∨ hik ≤ gx) (hKh : hik ≤ w.heap.size) (lot hit : Nat) (hTs : RdS w lot hit T ct cm.tags) (hTx : gx < lot ∨ hit ≤ gx) (hTh : hit ≤ w.heap.size) (hlf : cm.life < 18446744073709551616) (hvr : cm.ver < 18446744073709551616) (hsz : csz cm ≤ 17592186044416) (hop : cm.op = 13) :
    Fn Try.prog 40 #[(.pointer (some ⟨gx, 0, none⟩))] w (fun v w' => v = .tuple #[] ∧ (∃ A' c', Blk w' gx 92 [.pointer (some ⟨gc, 0, none⟩), .pointer none, .slice A' ((wfold cm).1).length c', .bool (wfold cm).2] ∧ OwnB w' (gx + 1) 5 A' c' ((wfold cm).1)) ∧ Gr w w' (some gx))  := by
  have hG := (ext_refl w).row (some gx)
  have hgxl := hb_gx.lt
  have hgcl := hb_gc.lt
  have hn0 : ([] : List UInt8).length = 0 := rfl
  simp only [csz] at hsz
  refine fn_enter (args := [(.pointer (some ⟨gx, 0, none⟩))]) Try.func40 rfl rfl rfl ?_
  show WC _ _ _ _ [(0, (.pointer (some ⟨gx, 0, none⟩)))] _
  refine wc_seq (wc_regionL ?_)
  refine vm rfl rfl ?_
  refine vn rfl rfl ?_
  refine wl_val (ov_field0 (off := 0) fo92_0 rfl) rfl rfl rfl ?_
  refine wl_val (ov_loadAt oc90 rfl hb_gx rfl) rfl rfl rfl ?_
  refine va rfl rfl ?_
  refine q_nil (k_then (wc_seq (wc_regionL ?_)))
  refine vm rfl rfl ?_
  refine vn rfl rfl ?_
  refine wl_val (ov_field0 (off := 0) fo58_0 rfl) rfl rfl rfl ?_
  refine wl_val (ov_loadAt oc22 rfl hb_gc rfl) rfl rfl rfl ?_
  refine wl_spell (d := 10) rfl (v' := (.int .i64 13)) (by rw [hop]) ?_
  refine q_nil (k_then (wc_block (wc_seq (wc_seq (wc_regionL ?_)))))
  refine ve rfl rfl rfl ?_
  refine va rfl rfl ?_
  refine q_nil (k_then ?_)
  refine wc_cond_f rfl ?_
  refine wc_seq (wc_regionL ?_)
  refine ve rfl rfl rfl ?_
  refine va rfl rfl ?_
  refine q_nil (k_then ?_)
  refine wc_cond_f rfl ?_
  refine wc_regionL ?_
  refine ve rfl rfl rfl ?_
  refine va rfl rfl ?_
  refine q_nil (k_then ?_)
  refine wc_cond_f rfl ?_
  refine wc_seq (wc_seq (wc_regionL ?_))
  refine ve rfl rfl rfl ?_
  refine va rfl rfl ?_
  refine q_nil (k_then ?_)
  refine wc_cond_f rfl ?_
  refine wc_seq (wc_regionL ?_)
  refine ve rfl rfl rfl ?_
  refine va rfl rfl ?_
  refine q_nil (k_then ?_)
  refine wc_cond_f rfl ?_
  refine wc_regionL ?_
  refine ve rfl rfl rfl ?_
  refine va rfl rfl ?_
  refine q_nil (k_then ?_)
  refine wc_cond_t rfl ?_
  refine wc_regionL ?_
  iterate 2 refine vm rfl rfl ?_
  refine vn rfl rfl ?_
  refine wl_val (ov_field0 (off := 1) fo58_1 rfl) rfl rfl rfl ?_
  refine wl_step (or_call0 cl53 rfl rfl (partw _ gx gc none 0 ([] : List UInt8) false hb_gx (Own.nil_ _ _ _ _) (by omega) ⟨gc, 1, none⟩ cm.key (hb_gc.at rfl) (by show gc ≠ gx; omega) (by omega) kv 54 cl54 (fun w => kv_any w _))) rfl rfl rfl ?_
  rintro v w1 ⟨rfl, ⟨A50, c50, hN50, ho50⟩, hg50⟩
  have hz_hg50 := hg50.size
  replace hb_gc := hb_gc.gr hg50 (by intro e; cases e; omega)
  replace hV := hV.gr hg50 (fun _ e => by cases e; omega)
  replace hKs := hKs.gr hg50 (fun _ e => by cases e; omega)
  replace hTs := hTs.gr hg50 (fun _ e => by cases e; omega)
  replace hG := hG.gr hg50 (fun _ e => by first | exact .inl e | (cases e; right; omega))
  replace hb_gx := hN50
  have hq_ho50 := fun g e => Own.lt ho50 (g := g) e
  have hl50 : (([] : List UInt8) ++ pb cm.key).length = (([] : List UInt8)).length + (pb cm.key).length := List.length_append
  have hlp50 := len_pb cm.key
  have hle50 := enc_len (cm.key).length
  refine q_nil (k_block ?_)
  refine e_end0 rfl ?_
  have e : wfold cm = ((([] : List UInt8) ++ pb cm.key), (false || !kv cm.key)) := by unfold wfold; rw [hop]; rfl
  rw [e]
  exact ⟨rfl, ⟨A50, c50, hb_gx, ho50⟩, hG⟩

theorem partsw_14 (w : World) (gx gc : Nat) (hb_gx : Blk w gx 92 [.pointer (some ⟨gc, 0, none⟩), .pointer none, .slice none ([] : List UInt8).length 0, .bool false]) (cm : Cmd) (K : Option Addr) (ck : Nat) (V : Option Addr) (cv : Nat) (T : Option Addr) (ct : Nat) (hb_gc : Blk w gc 58 (cmdc cm K ck V cv T ct)) (hgc : gc ≠ gx) (lov hiv : Nat) (hV : RdB w lov hiv V cv cm.value) (hVx : gx < lov ∨ hiv ≤ gx) (hVh : hiv ≤ w.heap.size) (lok hik : Nat) (hKs : RdS w lok hik K ck cm.keys) (hKx : gx < lok ∨ hik ≤ gx) (hKh : hik ≤ w.heap.size) (lot hit : Nat) (hTs : RdS w lot hit T ct cm.tags) (hTx : gx < lot ∨ hit ≤ gx) (hTh : hit ≤ w.heap.size) (hlf : cm.life < 18446744073709551616) (hvr : cm.ver < 18446744073709551616) (hsz : csz cm ≤ 17592186044416) (hop : cm.op = 14) :
    Fn Try.prog 40 #[(.pointer (some ⟨gx, 0, none⟩))] w (fun v w' => v = .tuple #[] ∧ (∃ A' c', Blk w' gx 92 [.pointer (some ⟨gc, 0, none⟩), .pointer none, .slice A' ((wfold cm).1).length c', .bool (wfold cm).2] ∧ OwnB w' (gx + 1) 5 A' c' ((wfold cm).1)) ∧ Gr w w' (some gx))  := by
  have hG := (ext_refl w).row (some gx)
  have hgxl := hb_gx.lt
  have hgcl := hb_gc.lt
  have hn0 : ([] : List UInt8).length = 0 := rfl
  simp only [csz] at hsz
  refine fn_enter (args := [(.pointer (some ⟨gx, 0, none⟩))]) Try.func40 rfl rfl rfl ?_
  show WC _ _ _ _ [(0, (.pointer (some ⟨gx, 0, none⟩)))] _
  refine wc_seq (wc_regionL ?_)
  refine vm rfl rfl ?_
  refine vn rfl rfl ?_
  refine wl_val (ov_field0 (off := 0) fo92_0 rfl) rfl rfl rfl ?_
  refine wl_val (ov_loadAt oc90 rfl hb_gx rfl) rfl rfl rfl ?_
  refine va rfl rfl ?_
  refine q_nil (k_then (wc_seq (wc_regionL ?_)))
  refine vm rfl rfl ?_
  refine vn rfl rfl ?_
  refine wl_val (ov_field0 (off := 0) fo58_0 rfl) rfl rfl rfl ?_
  refine wl_val (ov_loadAt oc22 rfl hb_gc rfl) rfl rfl rfl ?_
  refine wl_spell (d := 10) rfl (v' := (.int .i64 14)) (by rw [hop]) ?_
  refine q_nil (k_then (wc_block (wc_seq (wc_seq (wc_regionL ?_)))))
  refine ve rfl rfl rfl ?_
  refine va rfl rfl ?_
  refine q_nil (k_then ?_)
  refine wc_cond_f rfl ?_
  refine wc_seq (wc_regionL ?_)
  refine ve rfl rfl rfl ?_
  refine va rfl rfl ?_
  refine q_nil (k_then ?_)
  refine wc_cond_f rfl ?_
  refine wc_regionL ?_
  refine ve rfl rfl rfl ?_
  refine va rfl rfl ?_
  refine q_nil (k_then ?_)
  refine wc_cond_f rfl ?_
  refine wc_seq (wc_seq (wc_regionL ?_))
  refine ve rfl rfl rfl ?_
  refine va rfl rfl ?_
  refine q_nil (k_then ?_)
  refine wc_cond_f rfl ?_
  refine wc_seq (wc_regionL ?_)
  refine ve rfl rfl rfl ?_
  refine va rfl rfl ?_
  refine q_nil (k_then ?_)
  refine wc_cond_f rfl ?_
  refine wc_regionL ?_
  refine ve rfl rfl rfl ?_
  refine va rfl rfl ?_
  refine q_nil (k_then ?_)
  refine wc_cond_f rfl ?_
  refine wc_seq (wc_regionL ?_)
  refine ve rfl rfl rfl ?_
  refine va rfl rfl ?_
  refine q_nil (k_then ?_)
  refine wc_cond_f rfl ?_
  refine wc_seq (wc_regionL ?_)
  refine ve rfl rfl rfl ?_
  refine va rfl rfl ?_
  refine q_nil (k_then ?_)
  refine wc_cond_f rfl ?_
  refine wc_seq (wc_seq (wc_regionL ?_))
  refine ve rfl rfl rfl ?_
  refine va rfl rfl ?_
  refine q_nil (k_then ?_)
  refine wc_cond_f rfl ?_
  refine wc_regionL ?_
  refine ve rfl rfl rfl ?_
  refine va rfl rfl ?_
  refine q_nil (k_then ?_)
  refine wc_cond_f rfl ?_
  refine wc_seq (wc_regionL ?_)
  refine ve rfl rfl rfl ?_
  refine va rfl rfl ?_
  refine q_nil (k_then ?_)
  refine wc_cond_f rfl ?_
  refine wc_seq (wc_seq (wc_regionL ?_))
  refine ve rfl rfl rfl ?_
  refine va rfl rfl ?_
  refine q_nil (k_then ?_)
  refine wc_cond_f rfl ?_
  refine wc_regionL ?_
  refine ve rfl rfl rfl ?_
  refine va rfl rfl ?_
  refine q_nil (k_then ?_)
  refine wc_cond_f rfl ?_
  refine wc_seq (wc_seq (wc_regionL ?_))
  refine ve rfl rfl rfl ?_
  refine va rfl rfl ?_
  refine q_nil (k_then ?_)
  refine wc_cond_t rfl ?_
  refine q_skip (k_then ?_)
  refine wc_cond_t rfl ?_
  refine q_skip (k_block ?_)
  refine e_end0 rfl ?_
  have e : wfold cm = (([] : List UInt8), false) := by unfold wfold; rw [hop]; rfl
  rw [e]
  exact ⟨rfl, ⟨none, 0, hb_gx, (Own.nil_ _ _ _ _)⟩, hG⟩

theorem partsw_15 (w : World) (gx gc : Nat) (hb_gx : Blk w gx 92 [.pointer (some ⟨gc, 0, none⟩), .pointer none, .slice none ([] : List UInt8).length 0, .bool false]) (cm : Cmd) (K : Option Addr) (ck : Nat) (V : Option Addr) (cv : Nat) (T : Option Addr) (ct : Nat) (hb_gc : Blk w gc 58 (cmdc cm K ck V cv T ct)) (hgc : gc ≠ gx) (lov hiv : Nat) (hV : RdB w lov hiv V cv cm.value) (hVx : gx < lov ∨ hiv ≤ gx) (hVh : hiv ≤ w.heap.size) (lok hik : Nat) (hKs : RdS w lok hik K ck cm.keys) (hKx : gx < lok ∨ hik ≤ gx) (hKh : hik ≤ w.heap.size) (lot hit : Nat) (hTs : RdS w lot hit T ct cm.tags) (hTx : gx < lot ∨ hit ≤ gx) (hTh : hit ≤ w.heap.size) (hlf : cm.life < 18446744073709551616) (hvr : cm.ver < 18446744073709551616) (hsz : csz cm ≤ 17592186044416) (hop : cm.op = 15) :
    Fn Try.prog 40 #[(.pointer (some ⟨gx, 0, none⟩))] w (fun v w' => v = .tuple #[] ∧ (∃ A' c', Blk w' gx 92 [.pointer (some ⟨gc, 0, none⟩), .pointer none, .slice A' ((wfold cm).1).length c', .bool (wfold cm).2] ∧ OwnB w' (gx + 1) 5 A' c' ((wfold cm).1)) ∧ Gr w w' (some gx))  := by
  have hG := (ext_refl w).row (some gx)
  have hgxl := hb_gx.lt
  have hgcl := hb_gc.lt
  have hn0 : ([] : List UInt8).length = 0 := rfl
  simp only [csz] at hsz
  refine fn_enter (args := [(.pointer (some ⟨gx, 0, none⟩))]) Try.func40 rfl rfl rfl ?_
  show WC _ _ _ _ [(0, (.pointer (some ⟨gx, 0, none⟩)))] _
  refine wc_seq (wc_regionL ?_)
  refine vm rfl rfl ?_
  refine vn rfl rfl ?_
  refine wl_val (ov_field0 (off := 0) fo92_0 rfl) rfl rfl rfl ?_
  refine wl_val (ov_loadAt oc90 rfl hb_gx rfl) rfl rfl rfl ?_
  refine va rfl rfl ?_
  refine q_nil (k_then (wc_seq (wc_regionL ?_)))
  refine vm rfl rfl ?_
  refine vn rfl rfl ?_
  refine wl_val (ov_field0 (off := 0) fo58_0 rfl) rfl rfl rfl ?_
  refine wl_val (ov_loadAt oc22 rfl hb_gc rfl) rfl rfl rfl ?_
  refine wl_spell (d := 10) rfl (v' := (.int .i64 15)) (by rw [hop]) ?_
  refine q_nil (k_then (wc_block (wc_seq (wc_seq (wc_regionL ?_)))))
  refine ve rfl rfl rfl ?_
  refine va rfl rfl ?_
  refine q_nil (k_then ?_)
  refine wc_cond_f rfl ?_
  refine wc_seq (wc_regionL ?_)
  refine ve rfl rfl rfl ?_
  refine va rfl rfl ?_
  refine q_nil (k_then ?_)
  refine wc_cond_f rfl ?_
  refine wc_regionL ?_
  refine ve rfl rfl rfl ?_
  refine va rfl rfl ?_
  refine q_nil (k_then ?_)
  refine wc_cond_f rfl ?_
  refine wc_seq (wc_seq (wc_regionL ?_))
  refine ve rfl rfl rfl ?_
  refine va rfl rfl ?_
  refine q_nil (k_then ?_)
  refine wc_cond_f rfl ?_
  refine wc_seq (wc_regionL ?_)
  refine ve rfl rfl rfl ?_
  refine va rfl rfl ?_
  refine q_nil (k_then ?_)
  refine wc_cond_f rfl ?_
  refine wc_regionL ?_
  refine ve rfl rfl rfl ?_
  refine va rfl rfl ?_
  refine q_nil (k_then ?_)
  refine wc_cond_f rfl ?_
  refine wc_seq (wc_regionL ?_)
  refine ve rfl rfl rfl ?_
  refine va rfl rfl ?_
  refine q_nil (k_then ?_)
  refine wc_cond_f rfl ?_
  refine wc_seq (wc_regionL ?_)
  refine ve rfl rfl rfl ?_
  refine va rfl rfl ?_
  refine q_nil (k_then ?_)
  refine wc_cond_f rfl ?_
  refine wc_seq (wc_seq (wc_regionL ?_))
  refine ve rfl rfl rfl ?_
  refine va rfl rfl ?_
  refine q_nil (k_then ?_)
  refine wc_cond_f rfl ?_
  refine wc_regionL ?_
  refine ve rfl rfl rfl ?_
  refine va rfl rfl ?_
  refine q_nil (k_then ?_)
  refine wc_cond_f rfl ?_
  refine wc_seq (wc_regionL ?_)
  refine ve rfl rfl rfl ?_
  refine va rfl rfl ?_
  refine q_nil (k_then ?_)
  refine wc_cond_f rfl ?_
  refine wc_seq (wc_seq (wc_regionL ?_))
  refine ve rfl rfl rfl ?_
  refine va rfl rfl ?_
  refine q_nil (k_then ?_)
  refine wc_cond_f rfl ?_
  refine wc_regionL ?_
  refine ve rfl rfl rfl ?_
  refine va rfl rfl ?_
  refine q_nil (k_then ?_)
  refine wc_cond_f rfl ?_
  refine wc_seq (wc_seq (wc_regionL ?_))
  refine ve rfl rfl rfl ?_
  refine va rfl rfl ?_
  refine q_nil (k_then ?_)
  refine wc_cond_f rfl ?_
  refine wc_regionL ?_
  refine ve rfl rfl rfl ?_
  refine va rfl rfl ?_
  refine q_nil (k_then ?_)
  refine wc_cond_t rfl ?_
  refine q_skip (k_block ?_)
  refine e_end0 rfl ?_
  have e : wfold cm = (([] : List UInt8), false) := by unfold wfold; rw [hop]; rfl
  rw [e]
  exact ⟨rfl, ⟨none, 0, hb_gx, (Own.nil_ _ _ _ _)⟩, hG⟩

theorem partsw (w : World) (gx gc : Nat) (hb_gx : Blk w gx 92 [.pointer (some ⟨gc, 0, none⟩), .pointer none, .slice none ([] : List UInt8).length 0, .bool false]) (cm : Cmd) (K : Option Addr) (ck : Nat) (V : Option Addr) (cv : Nat) (T : Option Addr) (ct : Nat) (hb_gc : Blk w gc 58 (cmdc cm K ck V cv T ct)) (hgc : gc ≠ gx) (lov hiv : Nat) (hV : RdB w lov hiv V cv cm.value) (hVx : gx < lov ∨ hiv ≤ gx) (hVh : hiv ≤ w.heap.size) (lok hik : Nat) (hKs : RdS w lok hik K ck cm.keys) (hKx : gx < lok ∨ hik ≤ gx) (hKh : hik ≤ w.heap.size) (lot hit : Nat) (hTs : RdS w lot hit T ct cm.tags) (hTx : gx < lot ∨ hit ≤ gx) (hTh : hit ≤ w.heap.size) (hlf : cm.life < 18446744073709551616) (hvr : cm.ver < 18446744073709551616) (hsz : csz cm ≤ 17592186044416) (h1 : 1 ≤ cm.op) (h2 : cm.op ≤ 15) : Fn Try.prog 40 #[.pointer (some ⟨gx, 0, none⟩)] w (fun v w' => v = .tuple #[] ∧ (∃ A' c', Blk w' gx 92 [.pointer (some ⟨gc, 0, none⟩), .pointer none, .slice A' ((wfold cm).1).length c', .bool (wfold cm).2] ∧ OwnB w' (gx + 1) 5 A' c' ((wfold cm).1)) ∧ Gr w w' (some gx)) := by
  rcases (show cm.op = 1 ∨ cm.op = 2 ∨ cm.op = 3 ∨ cm.op = 4 ∨ cm.op = 5 ∨ cm.op = 6 ∨ cm.op = 7 ∨ cm.op = 8 ∨ cm.op = 9 ∨ cm.op = 10 ∨ cm.op = 11 ∨ cm.op = 12 ∨ cm.op = 13 ∨ cm.op = 14 ∨ cm.op = 15 by omega) with h | h | h | h | h | h | h | h | h | h | h | h | h | h | h
  · exact partsw_1 w gx gc hb_gx cm K ck V cv T ct hb_gc hgc lov hiv hV hVx hVh lok hik hKs hKx hKh lot hit hTs hTx hTh hlf hvr hsz h
  · exact partsw_2 w gx gc hb_gx cm K ck V cv T ct hb_gc hgc lov hiv hV hVx hVh lok hik hKs hKx hKh lot hit hTs hTx hTh hlf hvr hsz h
  · exact partsw_3 w gx gc hb_gx cm K ck V cv T ct hb_gc hgc lov hiv hV hVx hVh lok hik hKs hKx hKh lot hit hTs hTx hTh hlf hvr hsz h
  · exact partsw_4 w gx gc hb_gx cm K ck V cv T ct hb_gc hgc lov hiv hV hVx hVh lok hik hKs hKx hKh lot hit hTs hTx hTh hlf hvr hsz h
  · exact partsw_5 w gx gc hb_gx cm K ck V cv T ct hb_gc hgc lov hiv hV hVx hVh lok hik hKs hKx hKh lot hit hTs hTx hTh hlf hvr hsz h
  · exact partsw_6 w gx gc hb_gx cm K ck V cv T ct hb_gc hgc lov hiv hV hVx hVh lok hik hKs hKx hKh lot hit hTs hTx hTh hlf hvr hsz h
  · exact partsw_7 w gx gc hb_gx cm K ck V cv T ct hb_gc hgc lov hiv hV hVx hVh lok hik hKs hKx hKh lot hit hTs hTx hTh hlf hvr hsz h
  · exact partsw_8 w gx gc hb_gx cm K ck V cv T ct hb_gc hgc lov hiv hV hVx hVh lok hik hKs hKx hKh lot hit hTs hTx hTh hlf hvr hsz h
  · exact partsw_9 w gx gc hb_gx cm K ck V cv T ct hb_gc hgc lov hiv hV hVx hVh lok hik hKs hKx hKh lot hit hTs hTx hTh hlf hvr hsz h
  · exact partsw_10 w gx gc hb_gx cm K ck V cv T ct hb_gc hgc lov hiv hV hVx hVh lok hik hKs hKx hKh lot hit hTs hTx hTh hlf hvr hsz h
  · exact partsw_11 w gx gc hb_gx cm K ck V cv T ct hb_gc hgc lov hiv hV hVx hVh lok hik hKs hKx hKh lot hit hTs hTx hTh hlf hvr hsz h
  · exact partsw_12 w gx gc hb_gx cm K ck V cv T ct hb_gc hgc lov hiv hV hVx hVh lok hik hKs hKx hKh lot hit hTs hTx hTh hlf hvr hsz h
  · exact partsw_13 w gx gc hb_gx cm K ck V cv T ct hb_gc hgc lov hiv hV hVx hVh lok hik hKs hKx hKh lot hit hTs hTx hTh hlf hvr hsz h
  · exact partsw_14 w gx gc hb_gx cm K ck V cv T ct hb_gc hgc lov hiv hV hVx hVh lok hik hKs hKx hKh lot hit hTs hTx hTh hlf hvr hsz h
  · exact partsw_15 w gx gc hb_gx cm K ck V cv T ct hb_gc hgc lov hiv hV hVx hVh lok hik hKs hKx hKh lot hit hTs hTx hTh hlf hvr hsz h

end Go.Proofs.Ytohnkjjjejnkpaa
