/-
  The writing of values, lifetimes and lists.
-/
import Derived.Test.YtohnkjjjejnkpaaQa
namespace Go.Proofs.Ytohnkjjjejnkpaa
open Go.RowKit
set_option linter.unusedVariables false
set_option maxRecDepth 4000
theorem cl53 : callable Try.prog 53 = true := by kernel_rfl
theorem cl54 : callable Try.prog 54 = true := by kernel_rfl
theorem cl57 : callable Try.prog 57 = true := by kernel_rfl
theorem cl59 : callable Try.prog 59 = true := by kernel_rfl
theorem cl78 : callable Try.prog 78 = true := by kernel_rfl
theorem fo58_3 : fieldOff Try.prog 58 3 = some 3 := by kernel_rfl
theorem fo58_5 : fieldOff Try.prog 58 5 = some 5 := by kernel_rfl
theorem fo92_0 : fieldOff Try.prog 92 0 = some 0 := by kernel_rfl
theorem oc51 : oneCellTy Try.prog 51 = true := by kernel_rfl
theorem oc56 : oneCellTy Try.prog 56 = true := by kernel_rfl
theorem oc90 : oneCellTy Try.prog 90 = true := by kernel_rfl
theorem sl56 : SliceTy Try.prog 56 9 1 16 (.string (strB [])) := sliceTy_mk Try.underlying56 (by kernel_rfl) rfl (by decide)
theorem sz25 : (Try.prog.info? 25).map (·.size) = some 1 := by kernel_rfl
theorem sz51 : (Try.prog.info? 51).map (·.size) = some 1 := by kernel_rfl
theorem sz9 : (Try.prog.info? 9).map (·.size) = some 1 := by kernel_rfl
theorem ze25 : zeroOf Try.prog 25 = some (.int .u64 0) := by kernel_rfl
theorem ze9 : zeroOf Try.prog 9 = some (.string (strB [])) := by kernel_rfl

theorem bad_and (b x y : Bool) : (b || !x || !y) = (b || !(x && y)) := by cases b <;> cases x <;> cases y <;> rfl

theorem take_flat {xs : List (List UInt8)} {k : Nat} {s : List UInt8} (h : xs[k]? = some s) : (xs.take (k + 1)).flatMap pb = (xs.take k).flatMap pb ++ pb s := by
  rw [List.take_add_one, h, List.flatMap_append]; simp
theorem take_all1 {xs : List (List UInt8)} {k : Nat} {s : List UInt8} (al : List UInt8 → Bool) (h : xs[k]? = some s) : (xs.take (k + 1)).all al = ((xs.take k).all al && al s) := by
  rw [List.take_add_one, h, List.all_append]; simp
theorem flat_le (xs : List (List UInt8)) (k : Nat) : ((xs.take k).flatMap pb).length ≤ (xs.flatMap pb).length := by
  have e : xs.flatMap pb = (xs.take k).flatMap pb ++ (xs.drop k).flatMap pb := by rw [← List.flatMap_append, List.take_append_drop]
  rw [e, List.length_append]; omega
theorem wl_len (xs : List (List UInt8)) : (wl xs).length = (enc xs.length).length + (xs.flatMap pb).length := by simp [wl]
theorem mem_flat {xs : List (List UInt8)} {s : List UInt8} (h : s ∈ xs) : s.length ≤ (xs.flatMap pb).length := by
  induction xs with
  | nil => cases h
  | cons a r ih =>
    rw [List.flatMap_cons, List.length_append, len_pb]
    rcases List.mem_cons.1 h with h | h
    · subst h; omega
    · have := ih h; omega
theorem wlst_bad {a b : Nat} {al : List UInt8 → Bool} {out : List UInt8} {bad : Bool} {l : List (List UInt8)} (h : l.length < a ∨ b < l.length) : wlst a b al (out, bad) l = (out ++ enc l.length, true) := if_pos h
theorem wlst_ok {a b : Nat} {al : List UInt8 → Bool} {out : List UInt8} {bad : Bool} {l : List (List UInt8)} (h : ¬ (l.length < a ∨ b < l.length)) : wlst a b al (out, bad) l = (out ++ wl l, bad || !l.all al) := if_neg h
theorem wlst_len (a b : Nat) (al : List UInt8 → Bool) (out : List UInt8) (bad : Bool) (l : List (List UInt8)) : (wlst a b al (out, bad) l).1.length ≤ out.length + (wl l).length := by
  by_cases h : l.length < a ∨ b < l.length
  · rw [wlst_bad h, List.length_append, wl_len]; omega
  · rw [wlst_ok h, List.length_append]; omega

theorem valuew (w : World) (gx gc : Nat) (A : Option Addr) (c : Nat) (out : List UInt8) (bad : Bool) (hb_gx : Blk w gx 92 [.pointer (some ⟨gc, 0, none⟩), .pointer none, .slice A (out).length c, .bool bad]) (ho : OwnB w (gx + 1) 5 A c out) (hol : out.length ≤ 35184372088832) (cm : Cmd) (K : Option Addr) (ck : Nat) (V : Option Addr) (cv : Nat) (T : Option Addr) (ct : Nat) (hb_gc : Blk w gc 58 (cmdc cm K ck V cv T ct)) (hgc : gc ≠ gx) (lov hiv : Nat) (hV : RdB w lov hiv V cv cm.value) (hVx : gx < lov ∨ hiv ≤ gx) (hVh : hiv ≤ w.heap.size) (hVl : cm.value.length ≤ 35184372088832) :
    Fn Try.prog 55 #[(.pointer (some ⟨gx, 0, none⟩))] w (fun v w' => v = .tuple #[] ∧ (∃ A' c', Blk w' gx 92 [.pointer (some ⟨gc, 0, none⟩), .pointer none, .slice A' (out ++ pb cm.value).length c', .bool (bad || !vv cm.value)] ∧ OwnB w' (gx + 1) 5 A' c' (out ++ pb cm.value)) ∧ Gr w w' (some gx))  := by
  have hG := (ext_refl w).row (some gx)
  have hgxl := hb_gx.lt
  have hq_ho := fun g e => Own.lt ho (g := g) e
  have hgcl := hb_gc.lt
  refine fn_enter (args := [(.pointer (some ⟨gx, 0, none⟩))]) Try.func55 rfl rfl rfl ?_
  show WC _ _ _ _ [(0, (.pointer (some ⟨gx, 0, none⟩)))] _
  refine wc_seq (wc_regionL ?_)
  refine vm rfl rfl ?_
  refine vn rfl rfl ?_
  refine wl_val (ov_field0 (off := 0) fo92_0 rfl) rfl rfl rfl ?_
  refine wl_val (ov_loadAt oc90 rfl hb_gx rfl) rfl rfl rfl ?_
  refine vn rfl rfl ?_
  refine wl_val (ov_field0 (off := 3) fo58_3 rfl) rfl rfl rfl ?_
  refine wl_val (ov_loadAt oc32 rfl hb_gc rfl) rfl rfl rfl ?_
  refine wl_val (ov_bstr bt32 Try.underlying9 rfl hV) rfl rfl rfl ?_
  refine wl_step (or_alloc (cs := [(.string (strB []))]) ze9 rfl) rfl rfl rfl ?_
  rintro v w1 ⟨g2, rfl, hb_g2, he2, hl2, hu2⟩
  replace hb_gx := hb_gx.ext he2
  replace ho := Own.ext ho he2
  replace hG := hG.gr he2 (fun _ e => by cases e)
  replace hb_gc := hb_gc.ext he2
  replace hV := hV.ext he2
  have hz_he2 := he2.size
  refine wl_step0 (or_storeAt (cs' := [(.string (strB cm.value))]) sz9 rfl rfl rfl hb_g2 rfl rfl) rfl rfl ?_
  rintro _ w2 ⟨hN2, hg2⟩
  have hz_hg2 := hg2.size
  replace hb_gx := hb_gx.gr hg2 (by intro e; cases e; omega)
  replace ho := Own.gr ho hg2 (by first | exact .inl rfl | (right; intro e; first | (have := hq_ho _ e; omega) | (have := Own.lt ho e; omega) | exact own_blk_ne ho hb_g2 (by decide) e))
  replace hG := hG.gr hg2 (fun _ e => by first | exact .inl e | (cases e; right; omega))
  replace hb_gc := hb_gc.gr hg2 (by intro e; cases e; omega)
  replace hV := hV.gr hg2 (fun _ e => by cases e; omega)
  replace hb_g2 := hN2
  refine q_nil (k_then (wc_seq (wc_regionL ?_)))
  refine vm rfl rfl ?_
  refine wl_step (or_call0 cl53 rfl rfl (partw _ gx gc A c out bad hb_gx ho (by omega) ⟨g2, 0, none⟩ cm.value (hb_g2.at rfl) (by show g2 ≠ gx; omega) (by omega) vv 78 cl78 (fun w => vv_any w _))) rfl rfl rfl ?_
  rintro v w3 ⟨rfl, ⟨A12, c12, hN12, ho12⟩, hg12⟩
  have hz_hg12 := hg12.size
  replace hG := hG.gr hg12 (fun _ e => by first | exact .inl e | (cases e; right; omega))
  replace hb_gc := hb_gc.gr hg12 (by intro e; cases e; omega)
  replace hV := hV.gr hg12 (fun _ e => by cases e; omega)
  replace hb_g2 := hb_g2.gr hg12 (by intro e; cases e; omega)
  replace hb_gx := hN12
  have hq_ho12 := fun g e => Own.lt ho12 (g := g) e
  have hl12 : (out ++ pb cm.value).length = (out).length + (pb cm.value).length := List.length_append
  have hlp12 := len_pb cm.value
  have hle12 := enc_len (cm.value).length
  refine q_nil (k_then (wc_seq (wc_regionL ?_)))
  refine vm rfl rfl ?_
  refine vn rfl rfl ?_
  refine wl_val (ov_field0 (off := 1) fo92_1 rfl) rfl rfl rfl ?_
  refine wl_val (ov_loadAt oc83 rfl hb_gx rfl) rfl rfl rfl ?_
  refine wl_val (ov_nnilptr Try.underlying83 rfl) rfl rfl rfl ?_
  refine vm rfl rfl ?_
  iterate 3 refine wl_gskip rfl rfl rfl rfl rfl rfl ?_
  refine wl_val (ov_pick_f rfl rfl) rfl rfl rfl ?_
  refine q_nil (k_then ?_)
  refine wc_cond_f rfl ?_
  refine q_skip ?_
  refine e_end0 rfl ?_
  exact ⟨rfl, ⟨A12, c12, hb_gx, ho12⟩, hG⟩

theorem lifew_t (w : World) (gx gc : Nat) (A : Option Addr) (c : Nat) (out : List UInt8) (hb_gx : Blk w gx 92 [.pointer (some ⟨gc, 0, none⟩), .pointer none, .slice A (out).length c, .bool true]) (ho : OwnB w (gx + 1) 5 A c out) (hol : out.length ≤ 35184372088832) (cm : Cmd) (K : Option Addr) (ck : Nat) (V : Option Addr) (cv : Nat) (T : Option Addr) (ct : Nat) (hb_gc : Blk w gc 58 (cmdc cm K ck V cv T ct)) (hgc : gc ≠ gx) (hlf : cm.life < 18446744073709551616) :
    Fn Try.prog 58 #[(.pointer (some ⟨gx, 0, none⟩))] w (fun v w' => v = .tuple #[] ∧ (∃ A' c', Blk w' gx 92 [.pointer (some ⟨gc, 0, none⟩), .pointer none, .slice A' (out ++ enc cm.life).length c', .bool (true || decide (cm.life = 0))] ∧ OwnB w' (gx + 1) 5 A' c' (out ++ enc cm.life)) ∧ Gr w w' (some gx))  := by
  have hG := (ext_refl w).row (some gx)
  have hgxl := hb_gx.lt
  have hq_ho := fun g e => Own.lt ho (g := g) e
  have hgcl := hb_gc.lt
  refine fn_enter (args := [(.pointer (some ⟨gx, 0, none⟩))]) Try.func58 rfl rfl rfl ?_
  show WC _ _ _ _ [(0, (.pointer (some ⟨gx, 0, none⟩)))] _
  refine wc_seq (wc_regionL ?_)
  refine vm rfl rfl ?_
  refine vn rfl rfl ?_
  refine wl_val (ov_field0 (off := 0) fo92_0 rfl) rfl rfl rfl ?_
  refine wl_val (ov_loadAt oc90 rfl hb_gx rfl) rfl rfl rfl ?_
  refine vn rfl rfl ?_
  refine wl_val (ov_field0 (off := 5) fo58_5 rfl) rfl rfl rfl ?_
  refine wl_val (ov_loadAt oc51 rfl hb_gc rfl) rfl rfl rfl ?_
  refine wl_step (or_alloc (cs := [(.int .u64 0)]) ze25 rfl) rfl rfl rfl ?_
  rintro v w1 ⟨g2, rfl, hb_g2, he2, hl2, hu2⟩
  replace hb_gx := hb_gx.ext he2
  replace ho := Own.ext ho he2
  replace hG := hG.gr he2 (fun _ e => by cases e)
  replace hb_gc := hb_gc.ext he2
  have hz_he2 := he2.size
  refine wl_step0 (or_storeAt (cs' := [(.int .u64 (↑cm.life : Int))]) sz25 rfl rfl rfl hb_g2 rfl rfl) rfl rfl ?_
  rintro _ w2 ⟨hN2, hg2⟩
  have hz_hg2 := hg2.size
  replace hb_gx := hb_gx.gr hg2 (by intro e; cases e; omega)
  replace ho := Own.gr ho hg2 (by first | exact .inl rfl | (right; intro e; first | (have := hq_ho _ e; omega) | (have := Own.lt ho e; omega) | exact own_blk_ne ho hb_g2 (by decide) e))
  replace hG := hG.gr hg2 (fun _ e => by first | exact .inl e | (cases e; right; omega))
  replace hb_gc := hb_gc.gr hg2 (by intro e; cases e; omega)
  replace hb_g2 := hN2
  refine q_nil (k_then (wc_seq (wc_regionL ?_)))
  refine vm rfl rfl ?_
  refine wl_step (or_call0 cl59 rfl rfl (numw _ gx gc A c out true hb_gx ho (by omega) ⟨g2, 0, none⟩ (cm.life) (hb_g2.at rfl) (by omega))) rfl rfl rfl ?_
  rintro v w3 ⟨rfl, ⟨A11, c11, hN11, ho11⟩, hg11⟩
  have hz_hg11 := hg11.size
  replace hG := hG.gr hg11 (fun _ e => by first | exact .inl e | (cases e; right; omega))
  replace hb_gc := hb_gc.gr hg11 (by intro e; cases e; omega)
  replace hb_g2 := hb_g2.gr hg11 (by intro e; cases e; omega)
  replace hb_gx := hN11
  have hq_ho11 := fun g e => Own.lt ho11 (g := g) e
  have hl11 : (out ++ enc (cm.life)).length = (out).length + (enc (cm.life)).length := List.length_append
  have hle11 := enc_len (cm.life)
  refine q_nil (k_then (wc_seq ?_))
  refine wc_draw mixed 5 [(12, eqv (.pointer (some ⟨gx, 0, none⟩))), (13, eqv (.pointer (some ⟨gx, 0, none⟩))), (14, eqv (.pointer (some ⟨gx, 0, none⟩))), (15, eqv (.pointer (some ⟨gc, 0, none⟩))), (16, eqv (.int .u64 (↑cm.life : Int)))] [[], [0], [1], [2], []] _ [] [] (fun _ _ h => h) trivial (by kernel_rfl) rfl ⟨⟨stb_eqv _, fun _ he => by cases he⟩, ⟨stb_eqv _, fun _ he => by cases he⟩, ⟨stb_eqv _, fun _ he => by cases he⟩, ⟨stb_eqv _, fun _ he => by cases he⟩, ⟨stb_eqv _, fun _ he => by cases he⟩, trivial⟩ ⟨?_, ?_, ?_, ?_, ?_, trivial⟩ ?_
  · intro wd hxE
    replace hb_gx := hb_gx.ext hxE
    replace hG := hG.gr hxE (fun _ e => by cases e)
    replace hb_gc := hb_gc.ext hxE
    replace hb_g2 := hb_g2.ext hxE
    replace ho11 := Own.ext ho11 hxE
    have hz_hxE := hxE.size
    show OpG _ _ _ _ _ _
    exact og_plain rfl (ox_val (ov_move rfl))
  · intro wd hxE
    replace hb_gx := hb_gx.ext hxE
    replace hG := hG.gr hxE (fun _ e => by cases e)
    replace hb_gc := hb_gc.ext hxE
    replace hb_g2 := hb_g2.ext hxE
    replace ho11 := Own.ext ho11 hxE
    have hz_hxE := hxE.size
    rintro _ rfl
    show OpG _ _ _ _ _ _
    exact og_plain rfl (ox_val (ov_nilCheck rfl))
  · intro wd hxE
    replace hb_gx := hb_gx.ext hxE
    replace hG := hG.gr hxE (fun _ e => by cases e)
    replace hb_gc := hb_gc.ext hxE
    replace hb_g2 := hb_g2.ext hxE
    replace ho11 := Own.ext ho11 hxE
    have hz_hxE := hxE.size
    rintro _ rfl
    show OpG _ _ _ _ _ _
    exact og_plain rfl (ox_val (ov_field0 (off := 0) fo92_0 rfl))
  · intro wd hxE
    replace hb_gx := hb_gx.ext hxE
    replace hG := hG.gr hxE (fun _ e => by cases e)
    replace hb_gc := hb_gc.ext hxE
    replace hb_g2 := hb_g2.ext hxE
    replace ho11 := Own.ext ho11 hxE
    have hz_hxE := hxE.size
    rintro _ rfl
    show OpG _ _ _ _ _ _
    exact og_plain rfl (ox_val (ov_loadAt oc90 rfl hb_gx rfl))
  · intro wd hxE
    replace hb_gx := hb_gx.ext hxE
    replace hG := hG.gr hxE (fun _ e => by cases e)
    replace hb_gc := hb_gc.ext hxE
    replace hb_g2 := hb_g2.ext hxE
    replace ho11 := Own.ext ho11 hxE
    have hz_hxE := hxE.size
    show OpG _ _ _ _ _ _
    exact og_plain rfl (ox_val (ov_loadAt oc25 rfl hb_g2 rfl))
  · intro wf2 hf2
    replace hb_gx := hb_gx.ext hf2
    replace hG := hG.gr hf2 (fun _ e => by cases e)
    replace hb_gc := hb_gc.ext hf2
    replace hb_g2 := hb_g2.ext hf2
    replace ho11 := Own.ext ho11 hf2
    have hz_hf2 := hf2.size
    rintro _ rfl
    rintro _ rfl
    rintro _ rfl
    rintro _ rfl
    rintro _ rfl
    show WL _ _ _ [_, _, _] _ _ _
    refine vn rfl rfl ?_
    refine wl_val (ov_field0 (off := 5) fo58_5 rfl) rfl rfl rfl ?_
    refine wl_step0 (or_storeSame sz51 rfl rfl rfl hb_gc rfl rfl) rfl rfl ?_
    rintro _ w4 heS
    replace hb_gx := hb_gx.ext heS
    replace hG := hG.gr heS (fun _ e => by cases e)
    replace hb_gc := hb_gc.ext heS
    replace hb_g2 := hb_g2.ext heS
    replace ho11 := Own.ext ho11 heS
    have hz_heS := heS.size
    refine q_nil (k_then (wc_regionL ?_))
    iterate 2 refine vm rfl rfl ?_
    refine vn rfl rfl ?_
    refine wl_val (ov_field0 (off := 3) fo92_3 rfl) rfl rfl rfl ?_
    refine wl_val (ov_loadAt oc4 rfl hb_gx rfl) rfl rfl rfl ?_
    refine vm rfl rfl ?_
    iterate 2 refine wl_gskip rfl rfl rfl rfl rfl rfl ?_
    refine wl_val (ov_pick_t rfl rfl) rfl rfl rfl ?_
    refine vn rfl rfl ?_
    refine wl_val (ov_field0 (off := 3) fo92_3 rfl) rfl rfl rfl ?_
    refine wl_step0 (or_storeAt (cs' := [(.pointer (some ⟨gc, 0, none⟩)), (.pointer none), (.slice A11 (out ++ enc (cm.life)).length c11), (.bool true)]) sz4 rfl rfl rfl hb_gx rfl rfl) rfl rfl ?_
    rintro _ w5 ⟨hN5, hg5⟩
    have hz_hg5 := hg5.size
    replace hG := hG.gr hg5 (fun _ e => by first | exact .inl e | (cases e; right; omega))
    replace hb_gc := hb_gc.gr hg5 (by intro e; cases e; omega)
    replace hb_g2 := hb_g2.gr hg5 (by intro e; cases e; omega)
    replace ho11 := Own.gr ho11 hg5 (by first | exact .inl rfl | (right; intro e; first | (have := hq_ho11 _ e; omega) | (have := Own.lt ho11 e; omega) | exact own_blk_ne ho11 hb_gx (by decide) e))
    replace hb_gx := hN5
    refine q_nil ?_
    refine e_end0 rfl ?_
    exact ⟨rfl, ⟨A11, c11, hb_gx, ho11⟩, hG⟩

theorem lifew_f (w : World) (gx gc : Nat) (A : Option Addr) (c : Nat) (out : List UInt8) (hb_gx : Blk w gx 92 [.pointer (some ⟨gc, 0, none⟩), .pointer none, .slice A (out).length c, .bool false]) (ho : OwnB w (gx + 1) 5 A c out) (hol : out.length ≤ 35184372088832) (cm : Cmd) (K : Option Addr) (ck : Nat) (V : Option Addr) (cv : Nat) (T : Option Addr) (ct : Nat) (hb_gc : Blk w gc 58 (cmdc cm K ck V cv T ct)) (hgc : gc ≠ gx) (hlf : cm.life < 18446744073709551616) :
    Fn Try.prog 58 #[(.pointer (some ⟨gx, 0, none⟩))] w (fun v w' => v = .tuple #[] ∧ (∃ A' c', Blk w' gx 92 [.pointer (some ⟨gc, 0, none⟩), .pointer none, .slice A' (out ++ enc cm.life).length c', .bool (false || decide (cm.life = 0))] ∧ OwnB w' (gx + 1) 5 A' c' (out ++ enc cm.life)) ∧ Gr w w' (some gx))  := by
  have hG := (ext_refl w).row (some gx)
  have hgxl := hb_gx.lt
  have hq_ho := fun g e => Own.lt ho (g := g) e
  have hgcl := hb_gc.lt
  refine fn_enter (args := [(.pointer (some ⟨gx, 0, none⟩))]) Try.func58 rfl rfl rfl ?_
  show WC _ _ _ _ [(0, (.pointer (some ⟨gx, 0, none⟩)))] _
  refine wc_seq (wc_regionL ?_)
  refine vm rfl rfl ?_
  refine vn rfl rfl ?_
  refine wl_val (ov_field0 (off := 0) fo92_0 rfl) rfl rfl rfl ?_
  refine wl_val (ov_loadAt oc90 rfl hb_gx rfl) rfl rfl rfl ?_
  refine vn rfl rfl ?_
  refine wl_val (ov_field0 (off := 5) fo58_5 rfl) rfl rfl rfl ?_
  refine wl_val (ov_loadAt oc51 rfl hb_gc rfl) rfl rfl rfl ?_
  refine wl_step (or_alloc (cs := [(.int .u64 0)]) ze25 rfl) rfl rfl rfl ?_
  rintro v w1 ⟨g2, rfl, hb_g2, he2, hl2, hu2⟩
  replace hb_gx := hb_gx.ext he2
  replace ho := Own.ext ho he2
  replace hG := hG.gr he2 (fun _ e => by cases e)
  replace hb_gc := hb_gc.ext he2
  have hz_he2 := he2.size
  refine wl_step0 (or_storeAt (cs' := [(.int .u64 (↑cm.life : Int))]) sz25 rfl rfl rfl hb_g2 rfl rfl) rfl rfl ?_
  rintro _ w2 ⟨hN2, hg2⟩
  have hz_hg2 := hg2.size
  replace hb_gx := hb_gx.gr hg2 (by intro e; cases e; omega)
  replace ho := Own.gr ho hg2 (by first | exact .inl rfl | (right; intro e; first | (have := hq_ho _ e; omega) | (have := Own.lt ho e; omega) | exact own_blk_ne ho hb_g2 (by decide) e))
  replace hG := hG.gr hg2 (fun _ e => by first | exact .inl e | (cases e; right; omega))
  replace hb_gc := hb_gc.gr hg2 (by intro e; cases e; omega)
  replace hb_g2 := hN2
  refine q_nil (k_then (wc_seq (wc_regionL ?_)))
  refine vm rfl rfl ?_
  refine wl_step (or_call0 cl59 rfl rfl (numw _ gx gc A c out false hb_gx ho (by omega) ⟨g2, 0, none⟩ (cm.life) (hb_g2.at rfl) (by omega))) rfl rfl rfl ?_
  rintro v w3 ⟨rfl, ⟨A11, c11, hN11, ho11⟩, hg11⟩
  have hz_hg11 := hg11.size
  replace hG := hG.gr hg11 (fun _ e => by first | exact .inl e | (cases e; right; omega))
  replace hb_gc := hb_gc.gr hg11 (by intro e; cases e; omega)
  replace hb_g2 := hb_g2.gr hg11 (by intro e; cases e; omega)
  replace hb_gx := hN11
  have hq_ho11 := fun g e => Own.lt ho11 (g := g) e
  have hl11 : (out ++ enc (cm.life)).length = (out).length + (enc (cm.life)).length := List.length_append
  have hle11 := enc_len (cm.life)
  refine q_nil (k_then (wc_seq ?_))
  refine wc_draw mixed 5 [(12, eqv (.pointer (some ⟨gx, 0, none⟩))), (13, eqv (.pointer (some ⟨gx, 0, none⟩))), (14, eqv (.pointer (some ⟨gx, 0, none⟩))), (15, eqv (.pointer (some ⟨gc, 0, none⟩))), (16, eqv (.int .u64 (↑cm.life : Int)))] [[], [0], [1], [2], []] _ [] [] (fun _ _ h => h) trivial (by kernel_rfl) rfl ⟨⟨stb_eqv _, fun _ he => by cases he⟩, ⟨stb_eqv _, fun _ he => by cases he⟩, ⟨stb_eqv _, fun _ he => by cases he⟩, ⟨stb_eqv _, fun _ he => by cases he⟩, ⟨stb_eqv _, fun _ he => by cases he⟩, trivial⟩ ⟨?_, ?_, ?_, ?_, ?_, trivial⟩ ?_
  · intro wd hxE
    replace hb_gx := hb_gx.ext hxE
    replace hG := hG.gr hxE (fun _ e => by cases e)
    replace hb_gc := hb_gc.ext hxE
    replace hb_g2 := hb_g2.ext hxE
    replace ho11 := Own.ext ho11 hxE
    have hz_hxE := hxE.size
    show OpG _ _ _ _ _ _
    exact og_plain rfl (ox_val (ov_move rfl))
  · intro wd hxE
    replace hb_gx := hb_gx.ext hxE
    replace hG := hG.gr hxE (fun _ e => by cases e)
    replace hb_gc := hb_gc.ext hxE
    replace hb_g2 := hb_g2.ext hxE
    replace ho11 := Own.ext ho11 hxE
    have hz_hxE := hxE.size
    rintro _ rfl
    show OpG _ _ _ _ _ _
    exact og_plain rfl (ox_val (ov_nilCheck rfl))
  · intro wd hxE
    replace hb_gx := hb_gx.ext hxE
    replace hG := hG.gr hxE (fun _ e => by cases e)
    replace hb_gc := hb_gc.ext hxE
    replace hb_g2 := hb_g2.ext hxE
    replace ho11 := Own.ext ho11 hxE
    have hz_hxE := hxE.size
    rintro _ rfl
    show OpG _ _ _ _ _ _
    exact og_plain rfl (ox_val (ov_field0 (off := 0) fo92_0 rfl))
  · intro wd hxE
    replace hb_gx := hb_gx.ext hxE
    replace hG := hG.gr hxE (fun _ e => by cases e)
    replace hb_gc := hb_gc.ext hxE
    replace hb_g2 := hb_g2.ext hxE
    replace ho11 := Own.ext ho11 hxE
    have hz_hxE := hxE.size
    rintro _ rfl
    show OpG _ _ _ _ _ _
    exact og_plain rfl (ox_val (ov_loadAt oc90 rfl hb_gx rfl))
  · intro wd hxE
    replace hb_gx := hb_gx.ext hxE
    replace hG := hG.gr hxE (fun _ e => by cases e)
    replace hb_gc := hb_gc.ext hxE
    replace hb_g2 := hb_g2.ext hxE
    replace ho11 := Own.ext ho11 hxE
    have hz_hxE := hxE.size
    show OpG _ _ _ _ _ _
    exact og_plain rfl (ox_val (ov_loadAt oc25 rfl hb_g2 rfl))
  · intro wf2 hf2
    replace hb_gx := hb_gx.ext hf2
    replace hG := hG.gr hf2 (fun _ e => by cases e)
    replace hb_gc := hb_gc.ext hf2
    replace hb_g2 := hb_g2.ext hf2
    replace ho11 := Own.ext ho11 hf2
    have hz_hf2 := hf2.size
    rintro _ rfl
    rintro _ rfl
    rintro _ rfl
    rintro _ rfl
    rintro _ rfl
    show WL _ _ _ [_, _, _] _ _ _
    refine vn rfl rfl ?_
    refine wl_val (ov_field0 (off := 5) fo58_5 rfl) rfl rfl rfl ?_
    refine wl_step0 (or_storeSame sz51 rfl rfl rfl hb_gc rfl rfl) rfl rfl ?_
    rintro _ w4 heS
    replace hb_gx := hb_gx.ext heS
    replace hG := hG.gr heS (fun _ e => by cases e)
    replace hb_gc := hb_gc.ext heS
    replace hb_g2 := hb_g2.ext heS
    replace ho11 := Own.ext ho11 heS
    have hz_heS := heS.size
    refine q_nil (k_then (wc_regionL ?_))
    iterate 2 refine vm rfl rfl ?_
    refine vn rfl rfl ?_
    refine wl_val (ov_field0 (off := 3) fo92_3 rfl) rfl rfl rfl ?_
    refine wl_val (ov_loadAt oc4 rfl hb_gx rfl) rfl rfl rfl ?_
    refine vm rfl rfl ?_
    refine wl_gval (ov_loadAt oc25 rfl hb_g2 rfl) rfl rfl rfl rfl rfl ?_
    refine wl_gval (ov_eql rfl rfl) rfl rfl rfl rfl rfl ?_
    refine wl_val (ov_pick_f rfl rfl) rfl rfl rfl ?_
    refine vn rfl rfl ?_
    refine wl_val (ov_field0 (off := 3) fo92_3 rfl) rfl rfl rfl ?_
    refine wl_step0 (or_storeAt (cs' := [(.pointer (some ⟨gc, 0, none⟩)), (.pointer none), (.slice A11 (out ++ enc (cm.life)).length c11), (.bool (decide ((↑cm.life : Int) = 0)))]) sz4 rfl rfl rfl hb_gx rfl rfl) rfl rfl ?_
    rintro _ w5 ⟨hN5, hg5⟩
    have hz_hg5 := hg5.size
    replace hG := hG.gr hg5 (fun _ e => by first | exact .inl e | (cases e; right; omega))
    replace hb_gc := hb_gc.gr hg5 (by intro e; cases e; omega)
    replace hb_g2 := hb_g2.gr hg5 (by intro e; cases e; omega)
    replace ho11 := Own.gr ho11 hg5 (by first | exact .inl rfl | (right; intro e; first | (have := hq_ho11 _ e; omega) | (have := Own.lt ho11 e; omega) | exact own_blk_ne ho11 hb_gx (by decide) e))
    replace hb_gx := hN5
    refine q_nil ?_
    refine e_end0 rfl ?_
    have e0 : decide ((cm.life : Int) = 0) = (false || decide (cm.life = 0)) := by rw [Bool.false_or, decide_eq_decide]; omega
    rw [e0] at hb_gx
    exact ⟨rfl, ⟨A11, c11, hb_gx, ho11⟩, hG⟩

theorem lifew (w : World) (gx gc : Nat) (A : Option Addr) (c : Nat) (out : List UInt8) (bad : Bool) (hb_gx : Blk w gx 92 [.pointer (some ⟨gc, 0, none⟩), .pointer none, .slice A (out).length c, .bool bad]) (ho : OwnB w (gx + 1) 5 A c out) (hol : out.length ≤ 35184372088832) (cm : Cmd) (K : Option Addr) (ck : Nat) (V : Option Addr) (cv : Nat) (T : Option Addr) (ct : Nat) (hb_gc : Blk w gc 58 (cmdc cm K ck V cv T ct)) (hgc : gc ≠ gx) (hlf : cm.life < 18446744073709551616) : Fn Try.prog 58 #[.pointer (some ⟨gx, 0, none⟩)] w (fun v w' => v = .tuple #[] ∧ (∃ A' c', Blk w' gx 92 [.pointer (some ⟨gc, 0, none⟩), .pointer none, .slice A' (out ++ enc cm.life).length c', .bool (bad || decide (cm.life = 0))] ∧ OwnB w' (gx + 1) 5 A' c' (out ++ enc cm.life)) ∧ Gr w w' (some gx)) := by
  cases bad with
  | true => exact lifew_t w gx gc A c out hb_gx ho hol cm K ck V cv T ct hb_gc hgc hlf
  | false => exact lifew_f w gx gc A c out hb_gx ho hol cm K ck V cv T ct hb_gc hgc hlf

theorem listKw_ok (w : World) (gx gc : Nat) (A : Option Addr) (c : Nat) (out : List UInt8) (bad : Bool) (hb_gx : Blk w gx 92 [.pointer (some ⟨gc, 0, none⟩), .pointer none, .slice A (out).length c, .bool bad]) (ho : OwnB w (gx + 1) 5 A c out) (hol : out.length ≤ 35184372088832) (cm : Cmd) (K : Option Addr) (ck : Nat) (V : Option Addr) (cv : Nat) (T : Option Addr) (ct : Nat) (hb_gc : Blk w gc 58 (cmdc cm K ck V cv T ct)) (hgc : gc ≠ gx) (lol hil : Nat) (hKs : RdS w lol hil K ck cm.keys) (hlx : gx < lol ∨ hil ≤ gx) (hlh : hil ≤ w.heap.size) (hW : out.length + (wl cm.keys).length ≤ 35184372088832) (h1 : 1 ≤ cm.keys.length) (h2 : cm.keys.length ≤ 16) :
    Fn Try.prog 56 #[(.pointer (some ⟨gx, 0, none⟩)), (.pointer (some ⟨gc, 2, none⟩)), (.int .i64 1), (.int .i64 16), (.func (.func 54) #[] #[])] w (fun v w' => v = .tuple #[] ∧ (∃ A' c', Blk w' gx 92 [.pointer (some ⟨gc, 0, none⟩), .pointer none, .slice A' (out ++ wl cm.keys).length c', .bool (bad || !cm.keys.all kv)] ∧ OwnB w' (gx + 1) 5 A' c' (out ++ wl cm.keys)) ∧ Gr w w' (some gx))  := by
  have hG := (ext_refl w).row (some gx)
  have hgxl := hb_gx.lt
  have hq_ho := fun g e => Own.lt ho (g := g) e
  have hgcl := hb_gc.lt
  refine fn_enter (args := [(.pointer (some ⟨gx, 0, none⟩)), (.pointer (some ⟨gc, 2, none⟩)), (.int .i64 1), (.int .i64 16), (.func (.func 54) #[] #[])]) Try.func56 rfl rfl rfl ?_
  show WC _ _ _ _ [(0, (.pointer (some ⟨gx, 0, none⟩))), (1, (.pointer (some ⟨gc, 2, none⟩))), (2, (.int .i64 1)), (3, (.int .i64 16)), (4, (.func (.func 54) #[] #[]))] _
  refine wc_seq (wc_regionL ?_)
  refine vm rfl rfl ?_
  refine vn rfl rfl ?_
  refine wl_val (ov_loadAt oc56 rfl hb_gc rfl) rfl rfl rfl ?_
  refine wl_val (ov_len Try.underlying56 rfl) rfl rfl rfl ?_
  refine wl_val (ov_conv Try.underlying3 Try.underlying25 rfl (wu64 (by omega) (by omega))) rfl rfl rfl ?_
  refine wl_step (or_alloc (cs := [(.int .u64 0)]) ze25 rfl) rfl rfl rfl ?_
  rintro v w1 ⟨g10, rfl, hb_g10, he10, hl10, hu10⟩
  replace hb_gx := hb_gx.ext he10
  replace ho := Own.ext ho he10
  replace hG := hG.gr he10 (fun _ e => by cases e)
  replace hb_gc := hb_gc.ext he10
  replace hKs := hKs.ext he10
  have hz_he10 := he10.size
  refine wl_step0 (or_storeAt (cs' := [(.int .u64 (↑cm.keys.length : Int))]) sz25 rfl rfl rfl hb_g10 rfl rfl) rfl rfl ?_
  rintro _ w2 ⟨hN2, hg2⟩
  have hz_hg2 := hg2.size
  replace hb_gx := hb_gx.gr hg2 (by intro e; cases e; omega)
  replace ho := Own.gr ho hg2 (by first | exact .inl rfl | (right; intro e; first | (have := hq_ho _ e; omega) | (have := Own.lt ho e; omega) | exact own_blk_ne ho hb_g10 (by decide) e))
  replace hG := hG.gr hg2 (fun _ e => by first | exact .inl e | (cases e; right; omega))
  replace hb_gc := hb_gc.gr hg2 (by intro e; cases e; omega)
  replace hKs := hKs.gr hg2 (fun _ e => by cases e; omega)
  replace hb_g10 := hN2
  refine q_nil (k_then (wc_seq (wc_regionL ?_)))
  refine vm rfl rfl ?_
  refine wl_step (or_call0 cl59 rfl rfl (numw _ gx gc A c out bad hb_gx ho (by omega) ⟨g10, 0, none⟩ (cm.keys.length) (hb_g10.at rfl) (by omega))) rfl rfl rfl ?_
  rintro v w3 ⟨rfl, ⟨A18, c18, hN18, ho18⟩, hg18⟩
  have hz_hg18 := hg18.size
  replace hG := hG.gr hg18 (fun _ e => by first | exact .inl e | (cases e; right; omega))
  replace hb_gc := hb_gc.gr hg18 (by intro e; cases e; omega)
  replace hKs := hKs.gr hg18 (fun _ e => by cases e; omega)
  replace hb_g10 := hb_g10.gr hg18 (by intro e; cases e; omega)
  replace hb_gx := hN18
  have hq_ho18 := fun g e => Own.lt ho18 (g := g) e
  have hl18 : (out ++ enc (cm.keys.length)).length = (out).length + (enc (cm.keys.length)).length := List.length_append
  have hle18 := enc_len (cm.keys.length)
  refine q_nil (k_then (wc_seq (wc_seq (wc_regionL ?_))))
  refine wl_val (ov_loadAt oc25 rfl hb_g10 rfl) rfl rfl rfl ?_
  refine vm rfl rfl ?_
  refine wl_val (ov_conv Try.underlying3 Try.underlying25 (m := 1) rfl (by decide)) rfl rfl rfl ?_
  refine wl_val (ov_lss rfl rfl) rfl rfl rfl ?_
  refine wl_spell (d := 22) rfl (bf (by omega)) ?_
  refine vm rfl rfl ?_
  refine wl_gval (ov_loadAt oc25 rfl hb_g10 rfl) rfl rfl rfl rfl rfl ?_
  refine wl_gval (ov_move rfl) rfl rfl rfl rfl rfl ?_
  refine wl_gval (ov_conv Try.underlying3 Try.underlying25 (m := 16) rfl (by decide)) rfl rfl rfl rfl rfl ?_
  refine wl_gval (ov_gtr rfl rfl) rfl rfl rfl rfl rfl ?_
  refine wl_spell (d := 27) rfl (bf (by omega)) ?_
  refine wl_val (ov_pick_f rfl rfl) rfl rfl rfl ?_
  refine q_nil (k_then ?_)
  refine wc_cond_f rfl ?_
  refine q_skip (k_then (wc_seq (wc_seq (wc_regionL ?_))))
  refine vm rfl rfl ?_
  refine vn rfl rfl ?_
  refine wl_val (ov_field0 (off := 1) fo92_1 rfl) rfl rfl rfl ?_
  refine wl_val (ov_loadAt oc83 rfl hb_gx rfl) rfl rfl rfl ?_
  refine wl_val (ov_nnilptr Try.underlying83 rfl) rfl rfl rfl ?_
  refine vm rfl rfl ?_
  iterate 2 refine wl_gskip rfl rfl rfl rfl rfl rfl ?_
  refine wl_val (ov_pick_f rfl rfl) rfl rfl rfl ?_
  refine q_nil (k_then ?_)
  refine wc_cond_f rfl ?_
  refine q_skip (k_then (wc_seq (wc_regionL ?_)))
  refine vm rfl rfl ?_
  refine vn rfl rfl ?_
  refine wl_val (ov_loadAt oc56 rfl hb_gc rfl) rfl rfl rfl ?_
  refine wl_val (ov_len Try.underlying56 rfl) rfl rfl rfl ?_
  refine vm rfl rfl ?_
  refine q_nil (k_then (wc_block ?_))
  have hon := ho18
  refine wc_loop (σ := Nat × Option Addr × Nat) (fun s => cm.keys.length - s.1) (fun s => [(0, .pointer (some ⟨gx, 0, none⟩)), (1, .pointer (some ⟨gc, 2, none⟩)), (4, .func (.func 54) #[] #[]), (48, .int .i64 (cm.keys.length : Int)), (49, .int .i64 (s.1 : Int))]) (fun s w' => s.1 ≤ cm.keys.length ∧ Blk w' gx 92 [.pointer (some ⟨gc, 0, none⟩), .pointer none, .slice s.2.1 ((out ++ enc cm.keys.length ++ (cm.keys.take s.1).flatMap pb)).length s.2.2, .bool (bad || !(cm.keys.take s.1).all kv)] ∧ OwnB w' (gx + 1) 5 s.2.1 s.2.2 (out ++ enc cm.keys.length ++ (cm.keys.take s.1).flatMap pb) ∧ Blk w' gc 58 (cmdc cm K ck V cv T ct) ∧ RdS w' lol hil K ck cm.keys ∧ Gr w w' (some gx)) ((0, A18, c18)) (⟨Nat.zero_le _, by show Blk _ gx _ [.pointer (some ⟨gc, 0, none⟩), .pointer none, .slice A18 ((out ++ enc cm.keys.length ++ (cm.keys.take 0).flatMap pb)).length c18, .bool (bad || !(cm.keys.take 0).all kv)]; rw [List.take_zero, List.flatMap_nil, List.append_nil, List.all_nil, Bool.not_true, Bool.or_false]; exact hb_gx, by show OwnB _ _ _ _ _ (out ++ enc cm.keys.length ++ (cm.keys.take 0).flatMap pb); rw [List.take_zero, List.flatMap_nil, List.append_nil]; exact hon, hb_gc, hKs, hG⟩) (⟨rfl, rfl, rfl, rfl, rfl, trivial⟩) ?_
  rintro ⟨i, Ai, ci⟩ wq ⟨hi0, hb_gx, hoi, hb_gc, hKs, hG⟩
  show WC _ _ _ _ [(0, (.pointer (some ⟨gx, 0, none⟩))), (1, (.pointer (some ⟨gc, 2, none⟩))), (4, (.func (.func 54) #[] #[])), (48, (.int .i64 (↑cm.keys.length : Int))), (49, (.int .i64 (↑i : Int)))] _
  replace hi0 : i ≤ cm.keys.length := hi0
  replace hb_gx : Blk wq gx 92 [.pointer (some ⟨gc, 0, none⟩), .pointer none, .slice Ai ((out ++ enc cm.keys.length ++ (cm.keys.take i).flatMap pb)).length ci, .bool (bad || !(cm.keys.take i).all kv)] := hb_gx
  replace hoi : OwnB wq (gx + 1) 5 Ai ci (out ++ enc cm.keys.length ++ (cm.keys.take i).flatMap pb) := hoi
  have hq_hoi := fun g e => Own.lt hoi (g := g) e
  have hz_G := hG.size
  have hgxq := hb_gx.lt
  have hfl := flat_le cm.keys i
  have hwl := wl_len cm.keys
  have hol2 : (out ++ enc cm.keys.length ++ (cm.keys.take i).flatMap pb).length = out.length + (enc cm.keys.length).length + ((cm.keys.take i).flatMap pb).length := by rw [List.length_append, List.length_append]
  refine wc_seq (wc_regionL ?_)
  refine wl_val (ov_lss rfl rfl) rfl rfl rfl ?_
  refine q_nil (k_then (wc_seq ?_))
  refine wc_cond_d rfl (fun hc3 => ?_) (fun hc3 => ?_)
  · obtain ⟨s, hk⟩ : ∃ s, cm.keys[i]? = some s := ⟨_, List.getElem?_eq_getElem (by omega)⟩
    have hms := mem_flat (List.mem_of_getElem? hk)
    refine q_skip (k_then (wc_seq (wc_block (wc_seq (wc_regionL ?_)))))
    refine vm rfl rfl ?_
    refine va rfl rfl ?_
    refine q_nil (k_then (wc_regionL ?_))
    iterate 2 refine vm rfl rfl ?_
    refine vn rfl rfl ?_
    refine wl_val (ov_loadAt oc56 rfl hb_gc rfl) rfl rfl rfl ?_
    refine vm rfl rfl ?_
    refine wl_step (or_rindex (m := (i)) sl56 rfl rfl hKs (fun _ _ => rfl) hk) rfl rfl rfl ?_
    rintro v _ ⟨rfl, p57, rfl, hp57, hpl57, hph57⟩
    refine vm rfl rfl ?_
    refine wl_step (or_call0 cl53 rfl rfl (partw _ gx gc Ai ci (out ++ enc cm.keys.length ++ (cm.keys.take i).flatMap pb) (bad || !(cm.keys.take i).all kv) hb_gx hoi (by omega) _ s (cell_zero hp57 rfl) (by omega) (by omega) kv 54 cl54 (fun w => kv_any w _))) rfl rfl rfl ?_
    rintro v w4 ⟨rfl, ⟨A59, c59, hN59, ho59⟩, hg59⟩
    have hz_hg59 := hg59.size
    replace hb_gc := hb_gc.gr hg59 (by intro e; cases e; omega)
    replace hKs := hKs.gr hg59 (fun _ e => by cases e; omega)
    replace hG := hG.gr hg59 (fun _ e => by first | exact .inl e | (cases e; right; omega))
    replace hb_gx := hN59
    have hq_ho59 := fun g e => Own.lt ho59 (g := g) e
    have hl59 : ((out ++ enc cm.keys.length ++ (cm.keys.take i).flatMap pb) ++ pb s).length = ((out ++ enc cm.keys.length ++ (cm.keys.take i).flatMap pb)).length + (pb s).length := List.length_append
    have hlp59 := len_pb s
    have hle59 := enc_len (s).length
    refine q_nil (k_block (k_then (wc_regionL ?_)))
    refine wl_val (ov_add rfl rfl (wi64 (by omega) (by omega))) rfl rfl rfl ?_
    refine vm rfl rfl ?_
    refine q_nil ?_
    refine k_loop ((i + 1, A59, c59)) (by show cm.keys.length - (i + 1) < cm.keys.length - i; omega) (⟨rfl, rfl, rfl, rfl, rfl, trivial⟩) (⟨by show i + 1 ≤ _; omega, by show Blk _ gx _ [.pointer (some ⟨gc, 0, none⟩), .pointer none, .slice A59 ((out ++ enc cm.keys.length ++ (cm.keys.take (i + 1)).flatMap pb)).length c59, .bool (bad || !(cm.keys.take (i + 1)).all kv)]; rw [take_flat hk, ← List.append_assoc, take_all1 kv hk, ← bad_and]; exact hb_gx, by show OwnB _ _ _ A59 c59 (out ++ enc cm.keys.length ++ (cm.keys.take (i + 1)).flatMap pb); rw [take_flat hk, ← List.append_assoc]; exact ho59, hb_gc, hKs, hG⟩)
  · have hix : cm.keys.take i = cm.keys := List.take_of_length_le (by omega)
    rw [hix, List.append_assoc] at hb_gx hoi
    refine q_exit (k_thenX (k_thenX (k_blockE ?_)))
    refine e_end0 rfl ?_
    exact ⟨rfl, ⟨Ai, ci, hb_gx, hoi⟩, hG⟩

theorem listKw_bad (w : World) (gx gc : Nat) (A : Option Addr) (c : Nat) (out : List UInt8) (bad : Bool) (hb_gx : Blk w gx 92 [.pointer (some ⟨gc, 0, none⟩), .pointer none, .slice A (out).length c, .bool bad]) (ho : OwnB w (gx + 1) 5 A c out) (hol : out.length ≤ 35184372088832) (cm : Cmd) (K : Option Addr) (ck : Nat) (V : Option Addr) (cv : Nat) (T : Option Addr) (ct : Nat) (hb_gc : Blk w gc 58 (cmdc cm K ck V cv T ct)) (hgc : gc ≠ gx) (lol hil : Nat) (hKs : RdS w lol hil K ck cm.keys) (hlx : gx < lol ∨ hil ≤ gx) (hlh : hil ≤ w.heap.size) (hW : out.length + (wl cm.keys).length ≤ 35184372088832) (h1 : cm.keys.length < 1 ∨ 16 < cm.keys.length) :
    Fn Try.prog 56 #[(.pointer (some ⟨gx, 0, none⟩)), (.pointer (some ⟨gc, 2, none⟩)), (.int .i64 1), (.int .i64 16), (.func (.func 54) #[] #[])] w (fun v w' => v = .tuple #[] ∧ (∃ A' c', Blk w' gx 92 [.pointer (some ⟨gc, 0, none⟩), .pointer none, .slice A' (out ++ enc cm.keys.length).length c', .bool true] ∧ OwnB w' (gx + 1) 5 A' c' (out ++ enc cm.keys.length)) ∧ Gr w w' (some gx))  := by
  have hG := (ext_refl w).row (some gx)
  have hgxl := hb_gx.lt
  have hq_ho := fun g e => Own.lt ho (g := g) e
  have hgcl := hb_gc.lt
  have hcx := hKs.1
  have hcx2 := hKs.2.1
  simp only [maxLen] at hcx2
  refine fn_enter (args := [(.pointer (some ⟨gx, 0, none⟩)), (.pointer (some ⟨gc, 2, none⟩)), (.int .i64 1), (.int .i64 16), (.func (.func 54) #[] #[])]) Try.func56 rfl rfl rfl ?_
  show WC _ _ _ _ [(0, (.pointer (some ⟨gx, 0, none⟩))), (1, (.pointer (some ⟨gc, 2, none⟩))), (2, (.int .i64 1)), (3, (.int .i64 16)), (4, (.func (.func 54) #[] #[]))] _
  refine wc_seq (wc_regionL ?_)
  refine vm rfl rfl ?_
  refine vn rfl rfl ?_
  refine wl_val (ov_loadAt oc56 rfl hb_gc rfl) rfl rfl rfl ?_
  refine wl_val (ov_len Try.underlying56 rfl) rfl rfl rfl ?_
  refine wl_val (ov_conv Try.underlying3 Try.underlying25 rfl (wu64 (by omega) (by omega))) rfl rfl rfl ?_
  refine wl_step (or_alloc (cs := [(.int .u64 0)]) ze25 rfl) rfl rfl rfl ?_
  rintro v w1 ⟨g10, rfl, hb_g10, he10, hl10, hu10⟩
  replace hb_gx := hb_gx.ext he10
  replace ho := Own.ext ho he10
  replace hG := hG.gr he10 (fun _ e => by cases e)
  replace hb_gc := hb_gc.ext he10
  replace hKs := hKs.ext he10
  have hz_he10 := he10.size
  refine wl_step0 (or_storeAt (cs' := [(.int .u64 (↑cm.keys.length : Int))]) sz25 rfl rfl rfl hb_g10 rfl rfl) rfl rfl ?_
  rintro _ w2 ⟨hN2, hg2⟩
  have hz_hg2 := hg2.size
  replace hb_gx := hb_gx.gr hg2 (by intro e; cases e; omega)
  replace ho := Own.gr ho hg2 (by first | exact .inl rfl | (right; intro e; first | (have := hq_ho _ e; omega) | (have := Own.lt ho e; omega) | exact own_blk_ne ho hb_g10 (by decide) e))
  replace hG := hG.gr hg2 (fun _ e => by first | exact .inl e | (cases e; right; omega))
  replace hb_gc := hb_gc.gr hg2 (by intro e; cases e; omega)
  replace hKs := hKs.gr hg2 (fun _ e => by cases e; omega)
  replace hb_g10 := hN2
  refine q_nil (k_then (wc_seq (wc_regionL ?_)))
  refine vm rfl rfl ?_
  refine wl_step (or_call0 cl59 rfl rfl (numw _ gx gc A c out bad hb_gx ho (by omega) ⟨g10, 0, none⟩ (cm.keys.length) (hb_g10.at rfl) (by omega))) rfl rfl rfl ?_
  rintro v w3 ⟨rfl, ⟨A18, c18, hN18, ho18⟩, hg18⟩
  have hz_hg18 := hg18.size
  replace hG := hG.gr hg18 (fun _ e => by first | exact .inl e | (cases e; right; omega))
  replace hb_gc := hb_gc.gr hg18 (by intro e; cases e; omega)
  replace hKs := hKs.gr hg18 (fun _ e => by cases e; omega)
  replace hb_g10 := hb_g10.gr hg18 (by intro e; cases e; omega)
  replace hb_gx := hN18
  have hq_ho18 := fun g e => Own.lt ho18 (g := g) e
  have hl18 : (out ++ enc (cm.keys.length)).length = (out).length + (enc (cm.keys.length)).length := List.length_append
  have hle18 := enc_len (cm.keys.length)
  refine q_nil (k_then (wc_seq (wc_seq (wc_regionL ?_))))
  refine wl_val (ov_loadAt oc25 rfl hb_g10 rfl) rfl rfl rfl ?_
  refine vm rfl rfl ?_
  refine wl_val (ov_conv Try.underlying3 Try.underlying25 (m := 1) rfl (by decide)) rfl rfl rfl ?_
  refine wl_val (ov_lss rfl rfl) rfl rfl rfl ?_
  refine wl_case_d (d := 22) rfl (fun h22 => ?_) (fun h22 => ?_)
  · refine vm rfl rfl ?_
    iterate 4 refine wl_gskip rfl rfl rfl rfl rfl rfl ?_
    refine wl_val (ov_pick_t rfl rfl) rfl rfl rfl ?_
    refine q_nil (k_then ?_)
    refine wc_cond_t rfl ?_
    refine wc_seq (wc_regionL ?_)
    refine vm rfl rfl ?_
    refine vn rfl rfl ?_
    refine wl_val (ov_field0 (off := 3) fo92_3 rfl) rfl rfl rfl ?_
    refine wl_step0 (or_storeAt (cs' := [(.pointer (some ⟨gc, 0, none⟩)), (.pointer none), (.slice A18 (out ++ enc (cm.keys.length)).length c18), (.bool true)]) sz4 rfl rfl rfl hb_gx rfl rfl) rfl rfl ?_
    rintro _ w4 ⟨hN4, hg4⟩
    have hz_hg4 := hg4.size
    replace hG := hG.gr hg4 (fun _ e => by first | exact .inl e | (cases e; right; omega))
    replace hb_gc := hb_gc.gr hg4 (by intro e; cases e; omega)
    replace hKs := hKs.gr hg4 (fun _ e => by cases e; omega)
    replace hb_g10 := hb_g10.gr hg4 (by intro e; cases e; omega)
    replace ho18 := Own.gr ho18 hg4 (by first | exact .inl rfl | (right; intro e; first | (have := hq_ho18 _ e; omega) | (have := Own.lt ho18 e; omega) | exact own_blk_ne ho18 hb_gx (by decide) e))
    replace hb_gx := hN4
    refine q_nil (k_then (q_ret (k_thenR ?_)))
    refine e_ret0 rfl ?_
    exact ⟨rfl, ⟨A18, c18, hb_gx, ho18⟩, hG⟩
  · refine vm rfl rfl ?_
    refine wl_gval (ov_loadAt oc25 rfl hb_g10 rfl) rfl rfl rfl rfl rfl ?_
    refine wl_gval (ov_move rfl) rfl rfl rfl rfl rfl ?_
    refine wl_gval (ov_conv Try.underlying3 Try.underlying25 (m := 16) rfl (by decide)) rfl rfl rfl rfl rfl ?_
    refine wl_gval (ov_gtr rfl rfl) rfl rfl rfl rfl rfl ?_
    refine wl_spell (d := 27) rfl (bt (by omega)) ?_
    refine wl_val (ov_pick_f rfl rfl) rfl rfl rfl ?_
    refine q_nil (k_then ?_)
    refine wc_cond_t rfl ?_
    refine wc_seq (wc_regionL ?_)
    refine vm rfl rfl ?_
    refine vn rfl rfl ?_
    refine wl_val (ov_field0 (off := 3) fo92_3 rfl) rfl rfl rfl ?_
    refine wl_step0 (or_storeAt (cs' := [(.pointer (some ⟨gc, 0, none⟩)), (.pointer none), (.slice A18 (out ++ enc (cm.keys.length)).length c18), (.bool true)]) sz4 rfl rfl rfl hb_gx rfl rfl) rfl rfl ?_
    rintro _ w204 ⟨hN204, hg204⟩
    have hz_hg204 := hg204.size
    replace hG := hG.gr hg204 (fun _ e => by first | exact .inl e | (cases e; right; omega))
    replace hb_gc := hb_gc.gr hg204 (by intro e; cases e; omega)
    replace hKs := hKs.gr hg204 (fun _ e => by cases e; omega)
    replace hb_g10 := hb_g10.gr hg204 (by intro e; cases e; omega)
    replace ho18 := Own.gr ho18 hg204 (by first | exact .inl rfl | (right; intro e; first | (have := hq_ho18 _ e; omega) | (have := Own.lt ho18 e; omega) | exact own_blk_ne ho18 hb_gx (by decide) e))
    replace hb_gx := hN204
    refine q_nil (k_then (q_ret (k_thenR ?_)))
    refine e_ret0 rfl ?_
    exact ⟨rfl, ⟨A18, c18, hb_gx, ho18⟩, hG⟩

theorem listKw (w : World) (gx gc : Nat) (A : Option Addr) (c : Nat) (out : List UInt8) (bad : Bool) (hb_gx : Blk w gx 92 [.pointer (some ⟨gc, 0, none⟩), .pointer none, .slice A (out).length c, .bool bad]) (ho : OwnB w (gx + 1) 5 A c out) (hol : out.length ≤ 35184372088832) (cm : Cmd) (K : Option Addr) (ck : Nat) (V : Option Addr) (cv : Nat) (T : Option Addr) (ct : Nat) (hb_gc : Blk w gc 58 (cmdc cm K ck V cv T ct)) (hgc : gc ≠ gx) (lol hil : Nat) (hKs : RdS w lol hil K ck cm.keys) (hlx : gx < lol ∨ hil ≤ gx) (hlh : hil ≤ w.heap.size) (hW : out.length + (wl cm.keys).length ≤ 35184372088832) : Fn Try.prog 56 #[.pointer (some ⟨gx, 0, none⟩), .pointer (some ⟨gc, 2, none⟩), .int .i64 1, .int .i64 16, .func (.func 54) #[] #[]] w (fun v w' => v = .tuple #[] ∧ (∃ A' c', Blk w' gx 92 [.pointer (some ⟨gc, 0, none⟩), .pointer none, .slice A' ((wlst 1 16 kv (out, bad) cm.keys).1).length c', .bool (wlst 1 16 kv (out, bad) cm.keys).2] ∧ OwnB w' (gx + 1) 5 A' c' ((wlst 1 16 kv (out, bad) cm.keys).1)) ∧ Gr w w' (some gx)) := by
  by_cases h : cm.keys.length < 1 ∨ 16 < cm.keys.length
  · rw [wlst_bad h]; exact listKw_bad w gx gc A c out bad hb_gx ho hol cm K ck V cv T ct hb_gc hgc lol hil hKs hlx hlh hW h
  · rw [wlst_ok h]; exact listKw_ok w gx gc A c out bad hb_gx ho hol cm K ck V cv T ct hb_gc hgc lol hil hKs hlx hlh hW (by omega) (by omega)

theorem listTw_ok (w : World) (gx gc : Nat) (A : Option Addr) (c : Nat) (out : List UInt8) (bad : Bool) (hb_gx : Blk w gx 92 [.pointer (some ⟨gc, 0, none⟩), .pointer none, .slice A (out).length c, .bool bad]) (ho : OwnB w (gx + 1) 5 A c out) (hol : out.length ≤ 35184372088832) (cm : Cmd) (K : Option Addr) (ck : Nat) (V : Option Addr) (cv : Nat) (T : Option Addr) (ct : Nat) (hb_gc : Blk w gc 58 (cmdc cm K ck V cv T ct)) (hgc : gc ≠ gx) (lol hil : Nat) (hTs : RdS w lol hil T ct cm.tags) (hlx : gx < lol ∨ hil ≤ gx) (hlh : hil ≤ w.heap.size) (hW : out.length + (wl cm.tags).length ≤ 35184372088832) (h1 : 0 ≤ cm.tags.length) (h2 : cm.tags.length ≤ 16) :
    Fn Try.prog 56 #[(.pointer (some ⟨gx, 0, none⟩)), (.pointer (some ⟨gc, 4, none⟩)), (.int .i64 0), (.int .i64 16), (.func (.func 57) #[] #[])] w (fun v w' => v = .tuple #[] ∧ (∃ A' c', Blk w' gx 92 [.pointer (some ⟨gc, 0, none⟩), .pointer none, .slice A' (out ++ wl cm.tags).length c', .bool (bad || !cm.tags.all tv)] ∧ OwnB w' (gx + 1) 5 A' c' (out ++ wl cm.tags)) ∧ Gr w w' (some gx))  := by
  have hG := (ext_refl w).row (some gx)
  have hgxl := hb_gx.lt
  have hq_ho := fun g e => Own.lt ho (g := g) e
  have hgcl := hb_gc.lt
  refine fn_enter (args := [(.pointer (some ⟨gx, 0, none⟩)), (.pointer (some ⟨gc, 4, none⟩)), (.int .i64 0), (.int .i64 16), (.func (.func 57) #[] #[])]) Try.func56 rfl rfl rfl ?_
  show WC _ _ _ _ [(0, (.pointer (some ⟨gx, 0, none⟩))), (1, (.pointer (some ⟨gc, 4, none⟩))), (2, (.int .i64 0)), (3, (.int .i64 16)), (4, (.func (.func 57) #[] #[]))] _
  refine wc_seq (wc_regionL ?_)
  refine vm rfl rfl ?_
  refine vn rfl rfl ?_
  refine wl_val (ov_loadAt oc56 rfl hb_gc rfl) rfl rfl rfl ?_
  refine wl_val (ov_len Try.underlying56 rfl) rfl rfl rfl ?_
  refine wl_val (ov_conv Try.underlying3 Try.underlying25 rfl (wu64 (by omega) (by omega))) rfl rfl rfl ?_
  refine wl_step (or_alloc (cs := [(.int .u64 0)]) ze25 rfl) rfl rfl rfl ?_
  rintro v w1 ⟨g10, rfl, hb_g10, he10, hl10, hu10⟩
  replace hb_gx := hb_gx.ext he10
  replace ho := Own.ext ho he10
  replace hG := hG.gr he10 (fun _ e => by cases e)
  replace hb_gc := hb_gc.ext he10
  replace hTs := hTs.ext he10
  have hz_he10 := he10.size
  refine wl_step0 (or_storeAt (cs' := [(.int .u64 (↑cm.tags.length : Int))]) sz25 rfl rfl rfl hb_g10 rfl rfl) rfl rfl ?_
  rintro _ w2 ⟨hN2, hg2⟩
  have hz_hg2 := hg2.size
  replace hb_gx := hb_gx.gr hg2 (by intro e; cases e; omega)
  replace ho := Own.gr ho hg2 (by first | exact .inl rfl | (right; intro e; first | (have := hq_ho _ e; omega) | (have := Own.lt ho e; omega) | exact own_blk_ne ho hb_g10 (by decide) e))
  replace hG := hG.gr hg2 (fun _ e => by first | exact .inl e | (cases e; right; omega))
  replace hb_gc := hb_gc.gr hg2 (by intro e; cases e; omega)
  replace hTs := hTs.gr hg2 (fun _ e => by cases e; omega)
  replace hb_g10 := hN2
  refine q_nil (k_then (wc_seq (wc_regionL ?_)))
  refine vm rfl rfl ?_
  refine wl_step (or_call0 cl59 rfl rfl (numw _ gx gc A c out bad hb_gx ho (by omega) ⟨g10, 0, none⟩ (cm.tags.length) (hb_g10.at rfl) (by omega))) rfl rfl rfl ?_
  rintro v w3 ⟨rfl, ⟨A18, c18, hN18, ho18⟩, hg18⟩
  have hz_hg18 := hg18.size
  replace hG := hG.gr hg18 (fun _ e => by first | exact .inl e | (cases e; right; omega))
  replace hb_gc := hb_gc.gr hg18 (by intro e; cases e; omega)
  replace hTs := hTs.gr hg18 (fun _ e => by cases e; omega)
  replace hb_g10 := hb_g10.gr hg18 (by intro e; cases e; omega)
  replace hb_gx := hN18
  have hq_ho18 := fun g e => Own.lt ho18 (g := g) e
  have hl18 : (out ++ enc (cm.tags.length)).length = (out).length + (enc (cm.tags.length)).length := List.length_append
  have hle18 := enc_len (cm.tags.length)
  refine q_nil (k_then (wc_seq (wc_seq (wc_regionL ?_))))
  refine wl_val (ov_loadAt oc25 rfl hb_g10 rfl) rfl rfl rfl ?_
  refine vm rfl rfl ?_
  refine wl_val (ov_conv Try.underlying3 Try.underlying25 (m := 0) rfl (by decide)) rfl rfl rfl ?_
  refine wl_val (ov_lss rfl rfl) rfl rfl rfl ?_
  refine wl_spell (d := 22) rfl (bf (by omega)) ?_
  refine vm rfl rfl ?_
  refine wl_gval (ov_loadAt oc25 rfl hb_g10 rfl) rfl rfl rfl rfl rfl ?_
  refine wl_gval (ov_move rfl) rfl rfl rfl rfl rfl ?_
  refine wl_gval (ov_conv Try.underlying3 Try.underlying25 (m := 16) rfl (by decide)) rfl rfl rfl rfl rfl ?_
  refine wl_gval (ov_gtr rfl rfl) rfl rfl rfl rfl rfl ?_
  refine wl_spell (d := 27) rfl (bf (by omega)) ?_
  refine wl_val (ov_pick_f rfl rfl) rfl rfl rfl ?_
  refine q_nil (k_then ?_)
  refine wc_cond_f rfl ?_
  refine q_skip (k_then (wc_seq (wc_seq (wc_regionL ?_))))
  refine vm rfl rfl ?_
  refine vn rfl rfl ?_
  refine wl_val (ov_field0 (off := 1) fo92_1 rfl) rfl rfl rfl ?_
  refine wl_val (ov_loadAt oc83 rfl hb_gx rfl) rfl rfl rfl ?_
  refine wl_val (ov_nnilptr Try.underlying83 rfl) rfl rfl rfl ?_
  refine vm rfl rfl ?_
  iterate 2 refine wl_gskip rfl rfl rfl rfl rfl rfl ?_
  refine wl_val (ov_pick_f rfl rfl) rfl rfl rfl ?_
  refine q_nil (k_then ?_)
  refine wc_cond_f rfl ?_
  refine q_skip (k_then (wc_seq (wc_regionL ?_)))
  refine vm rfl rfl ?_
  refine vn rfl rfl ?_
  refine wl_val (ov_loadAt oc56 rfl hb_gc rfl) rfl rfl rfl ?_
  refine wl_val (ov_len Try.underlying56 rfl) rfl rfl rfl ?_
  refine vm rfl rfl ?_
  refine q_nil (k_then (wc_block ?_))
  have hon := ho18
  refine wc_loop (σ := Nat × Option Addr × Nat) (fun s => cm.tags.length - s.1) (fun s => [(0, .pointer (some ⟨gx, 0, none⟩)), (1, .pointer (some ⟨gc, 4, none⟩)), (4, .func (.func 57) #[] #[]), (48, .int .i64 (cm.tags.length : Int)), (49, .int .i64 (s.1 : Int))]) (fun s w' => s.1 ≤ cm.tags.length ∧ Blk w' gx 92 [.pointer (some ⟨gc, 0, none⟩), .pointer none, .slice s.2.1 ((out ++ enc cm.tags.length ++ (cm.tags.take s.1).flatMap pb)).length s.2.2, .bool (bad || !(cm.tags.take s.1).all tv)] ∧ OwnB w' (gx + 1) 5 s.2.1 s.2.2 (out ++ enc cm.tags.length ++ (cm.tags.take s.1).flatMap pb) ∧ Blk w' gc 58 (cmdc cm K ck V cv T ct) ∧ RdS w' lol hil T ct cm.tags ∧ Gr w w' (some gx)) ((0, A18, c18)) (⟨Nat.zero_le _, by show Blk _ gx _ [.pointer (some ⟨gc, 0, none⟩), .pointer none, .slice A18 ((out ++ enc cm.tags.length ++ (cm.tags.take 0).flatMap pb)).length c18, .bool (bad || !(cm.tags.take 0).all tv)]; rw [List.take_zero, List.flatMap_nil, List.append_nil, List.all_nil, Bool.not_true, Bool.or_false]; exact hb_gx, by show OwnB _ _ _ _ _ (out ++ enc cm.tags.length ++ (cm.tags.take 0).flatMap pb); rw [List.take_zero, List.flatMap_nil, List.append_nil]; exact hon, hb_gc, hTs, hG⟩) (⟨rfl, rfl, rfl, rfl, rfl, trivial⟩) ?_
  rintro ⟨i, Ai, ci⟩ wq ⟨hi0, hb_gx, hoi, hb_gc, hTs, hG⟩
  show WC _ _ _ _ [(0, (.pointer (some ⟨gx, 0, none⟩))), (1, (.pointer (some ⟨gc, 4, none⟩))), (4, (.func (.func 57) #[] #[])), (48, (.int .i64 (↑cm.tags.length : Int))), (49, (.int .i64 (↑i : Int)))] _
  replace hi0 : i ≤ cm.tags.length := hi0
  replace hb_gx : Blk wq gx 92 [.pointer (some ⟨gc, 0, none⟩), .pointer none, .slice Ai ((out ++ enc cm.tags.length ++ (cm.tags.take i).flatMap pb)).length ci, .bool (bad || !(cm.tags.take i).all tv)] := hb_gx
  replace hoi : OwnB wq (gx + 1) 5 Ai ci (out ++ enc cm.tags.length ++ (cm.tags.take i).flatMap pb) := hoi
  have hq_hoi := fun g e => Own.lt hoi (g := g) e
  have hz_G := hG.size
  have hgxq := hb_gx.lt
  have hfl := flat_le cm.tags i
  have hwl := wl_len cm.tags
  have hol2 : (out ++ enc cm.tags.length ++ (cm.tags.take i).flatMap pb).length = out.length + (enc cm.tags.length).length + ((cm.tags.take i).flatMap pb).length := by rw [List.length_append, List.length_append]
  refine wc_seq (wc_regionL ?_)
  refine wl_val (ov_lss rfl rfl) rfl rfl rfl ?_
  refine q_nil (k_then (wc_seq ?_))
  refine wc_cond_d rfl (fun hc3 => ?_) (fun hc3 => ?_)
  · obtain ⟨s, hk⟩ : ∃ s, cm.tags[i]? = some s := ⟨_, List.getElem?_eq_getElem (by omega)⟩
    have hms := mem_flat (List.mem_of_getElem? hk)
    refine q_skip (k_then (wc_seq (wc_block (wc_seq (wc_regionL ?_)))))
    refine vm rfl rfl ?_
    refine va rfl rfl ?_
    refine q_nil (k_then (wc_regionL ?_))
    iterate 2 refine vm rfl rfl ?_
    refine vn rfl rfl ?_
    refine wl_val (ov_loadAt oc56 rfl hb_gc rfl) rfl rfl rfl ?_
    refine vm rfl rfl ?_
    refine wl_step (or_rindex (m := (i)) sl56 rfl rfl hTs (fun _ _ => rfl) hk) rfl rfl rfl ?_
    rintro v _ ⟨rfl, p57, rfl, hp57, hpl57, hph57⟩
    refine vm rfl rfl ?_
    refine wl_step (or_call0 cl53 rfl rfl (partw _ gx gc Ai ci (out ++ enc cm.tags.length ++ (cm.tags.take i).flatMap pb) (bad || !(cm.tags.take i).all tv) hb_gx hoi (by omega) _ s (cell_zero hp57 rfl) (by omega) (by omega) tv 57 cl57 (fun w => tv_any w _))) rfl rfl rfl ?_
    rintro v w4 ⟨rfl, ⟨A59, c59, hN59, ho59⟩, hg59⟩
    have hz_hg59 := hg59.size
    replace hb_gc := hb_gc.gr hg59 (by intro e; cases e; omega)
    replace hTs := hTs.gr hg59 (fun _ e => by cases e; omega)
    replace hG := hG.gr hg59 (fun _ e => by first | exact .inl e | (cases e; right; omega))
    replace hb_gx := hN59
    have hq_ho59 := fun g e => Own.lt ho59 (g := g) e
    have hl59 : ((out ++ enc cm.tags.length ++ (cm.tags.take i).flatMap pb) ++ pb s).length = ((out ++ enc cm.tags.length ++ (cm.tags.take i).flatMap pb)).length + (pb s).length := List.length_append
    have hlp59 := len_pb s
    have hle59 := enc_len (s).length
    refine q_nil (k_block (k_then (wc_regionL ?_)))
    refine wl_val (ov_add rfl rfl (wi64 (by omega) (by omega))) rfl rfl rfl ?_
    refine vm rfl rfl ?_
    refine q_nil ?_
    refine k_loop ((i + 1, A59, c59)) (by show cm.tags.length - (i + 1) < cm.tags.length - i; omega) (⟨rfl, rfl, rfl, rfl, rfl, trivial⟩) (⟨by show i + 1 ≤ _; omega, by show Blk _ gx _ [.pointer (some ⟨gc, 0, none⟩), .pointer none, .slice A59 ((out ++ enc cm.tags.length ++ (cm.tags.take (i + 1)).flatMap pb)).length c59, .bool (bad || !(cm.tags.take (i + 1)).all tv)]; rw [take_flat hk, ← List.append_assoc, take_all1 tv hk, ← bad_and]; exact hb_gx, by show OwnB _ _ _ A59 c59 (out ++ enc cm.tags.length ++ (cm.tags.take (i + 1)).flatMap pb); rw [take_flat hk, ← List.append_assoc]; exact ho59, hb_gc, hTs, hG⟩)
  · have hix : cm.tags.take i = cm.tags := List.take_of_length_le (by omega)
    rw [hix, List.append_assoc] at hb_gx hoi
    refine q_exit (k_thenX (k_thenX (k_blockE ?_)))
    refine e_end0 rfl ?_
    exact ⟨rfl, ⟨Ai, ci, hb_gx, hoi⟩, hG⟩

theorem listTw_bad (w : World) (gx gc : Nat) (A : Option Addr) (c : Nat) (out : List UInt8) (bad : Bool) (hb_gx : Blk w gx 92 [.pointer (some ⟨gc, 0, none⟩), .pointer none, .slice A (out).length c, .bool bad]) (ho : OwnB w (gx + 1) 5 A c out) (hol : out.length ≤ 35184372088832) (cm : Cmd) (K : Option Addr) (ck : Nat) (V : Option Addr) (cv : Nat) (T : Option Addr) (ct : Nat) (hb_gc : Blk w gc 58 (cmdc cm K ck V cv T ct)) (hgc : gc ≠ gx) (lol hil : Nat) (hTs : RdS w lol hil T ct cm.tags) (hlx : gx < lol ∨ hil ≤ gx) (hlh : hil ≤ w.heap.size) (hW : out.length + (wl cm.tags).length ≤ 35184372088832) (h1 : cm.tags.length < 0 ∨ 16 < cm.tags.length) :
    Fn Try.prog 56 #[(.pointer (some ⟨gx, 0, none⟩)), (.pointer (some ⟨gc, 4, none⟩)), (.int .i64 0), (.int .i64 16), (.func (.func 57) #[] #[])] w (fun v w' => v = .tuple #[] ∧ (∃ A' c', Blk w' gx 92 [.pointer (some ⟨gc, 0, none⟩), .pointer none, .slice A' (out ++ enc cm.tags.length).length c', .bool true] ∧ OwnB w' (gx + 1) 5 A' c' (out ++ enc cm.tags.length)) ∧ Gr w w' (some gx))  := by
  have hG := (ext_refl w).row (some gx)
  have hgxl := hb_gx.lt
  have hq_ho := fun g e => Own.lt ho (g := g) e
  have hgcl := hb_gc.lt
  have hcx := hTs.1
  have hcx2 := hTs.2.1
  simp only [maxLen] at hcx2
  refine fn_enter (args := [(.pointer (some ⟨gx, 0, none⟩)), (.pointer (some ⟨gc, 4, none⟩)), (.int .i64 0), (.int .i64 16), (.func (.func 57) #[] #[])]) Try.func56 rfl rfl rfl ?_
  show WC _ _ _ _ [(0, (.pointer (some ⟨gx, 0, none⟩))), (1, (.pointer (some ⟨gc, 4, none⟩))), (2, (.int .i64 0)), (3, (.int .i64 16)), (4, (.func (.func 57) #[] #[]))] _
  refine wc_seq (wc_regionL ?_)
  refine vm rfl rfl ?_
  refine vn rfl rfl ?_
  refine wl_val (ov_loadAt oc56 rfl hb_gc rfl) rfl rfl rfl ?_
  refine wl_val (ov_len Try.underlying56 rfl) rfl rfl rfl ?_
  refine wl_val (ov_conv Try.underlying3 Try.underlying25 rfl (wu64 (by omega) (by omega))) rfl rfl rfl ?_
  refine wl_step (or_alloc (cs := [(.int .u64 0)]) ze25 rfl) rfl rfl rfl ?_
  rintro v w1 ⟨g10, rfl, hb_g10, he10, hl10, hu10⟩
  replace hb_gx := hb_gx.ext he10
  replace ho := Own.ext ho he10
  replace hG := hG.gr he10 (fun _ e => by cases e)
  replace hb_gc := hb_gc.ext he10
  replace hTs := hTs.ext he10
  have hz_he10 := he10.size
  refine wl_step0 (or_storeAt (cs' := [(.int .u64 (↑cm.tags.length : Int))]) sz25 rfl rfl rfl hb_g10 rfl rfl) rfl rfl ?_
  rintro _ w2 ⟨hN2, hg2⟩
  have hz_hg2 := hg2.size
  replace hb_gx := hb_gx.gr hg2 (by intro e; cases e; omega)
  replace ho := Own.gr ho hg2 (by first | exact .inl rfl | (right; intro e; first | (have := hq_ho _ e; omega) | (have := Own.lt ho e; omega) | exact own_blk_ne ho hb_g10 (by decide) e))
  replace hG := hG.gr hg2 (fun _ e => by first | exact .inl e | (cases e; right; omega))
  replace hb_gc := hb_gc.gr hg2 (by intro e; cases e; omega)
  replace hTs := hTs.gr hg2 (fun _ e => by cases e; omega)
  replace hb_g10 := hN2
  refine q_nil (k_then (wc_seq (wc_regionL ?_)))
  refine vm rfl rfl ?_
  refine wl_step (or_call0 cl59 rfl rfl (numw _ gx gc A c out bad hb_gx ho (by omega) ⟨g10, 0, none⟩ (cm.tags.length) (hb_g10.at rfl) (by omega))) rfl rfl rfl ?_
  rintro v w3 ⟨rfl, ⟨A18, c18, hN18, ho18⟩, hg18⟩
  have hz_hg18 := hg18.size
  replace hG := hG.gr hg18 (fun _ e => by first | exact .inl e | (cases e; right; omega))
  replace hb_gc := hb_gc.gr hg18 (by intro e; cases e; omega)
  replace hTs := hTs.gr hg18 (fun _ e => by cases e; omega)
  replace hb_g10 := hb_g10.gr hg18 (by intro e; cases e; omega)
  replace hb_gx := hN18
  have hq_ho18 := fun g e => Own.lt ho18 (g := g) e
  have hl18 : (out ++ enc (cm.tags.length)).length = (out).length + (enc (cm.tags.length)).length := List.length_append
  have hle18 := enc_len (cm.tags.length)
  refine q_nil (k_then (wc_seq (wc_seq (wc_regionL ?_))))
  refine wl_val (ov_loadAt oc25 rfl hb_g10 rfl) rfl rfl rfl ?_
  refine vm rfl rfl ?_
  refine wl_val (ov_conv Try.underlying3 Try.underlying25 (m := 0) rfl (by decide)) rfl rfl rfl ?_
  refine wl_val (ov_lss rfl rfl) rfl rfl rfl ?_
  refine wl_spell (d := 22) rfl (bf (by omega)) ?_
  refine vm rfl rfl ?_
  refine wl_gval (ov_loadAt oc25 rfl hb_g10 rfl) rfl rfl rfl rfl rfl ?_
  refine wl_gval (ov_move rfl) rfl rfl rfl rfl rfl ?_
  refine wl_gval (ov_conv Try.underlying3 Try.underlying25 (m := 16) rfl (by decide)) rfl rfl rfl rfl rfl ?_
  refine wl_gval (ov_gtr rfl rfl) rfl rfl rfl rfl rfl ?_
  refine wl_spell (d := 27) rfl (bt (by omega)) ?_
  refine wl_val (ov_pick_f rfl rfl) rfl rfl rfl ?_
  refine q_nil (k_then ?_)
  refine wc_cond_t rfl ?_
  refine wc_seq (wc_regionL ?_)
  refine vm rfl rfl ?_
  refine vn rfl rfl ?_
  refine wl_val (ov_field0 (off := 3) fo92_3 rfl) rfl rfl rfl ?_
  refine wl_step0 (or_storeAt (cs' := [(.pointer (some ⟨gc, 0, none⟩)), (.pointer none), (.slice A18 (out ++ enc (cm.tags.length)).length c18), (.bool true)]) sz4 rfl rfl rfl hb_gx rfl rfl) rfl rfl ?_
  rintro _ w4 ⟨hN4, hg4⟩
  have hz_hg4 := hg4.size
  replace hG := hG.gr hg4 (fun _ e => by first | exact .inl e | (cases e; right; omega))
  replace hb_gc := hb_gc.gr hg4 (by intro e; cases e; omega)
  replace hTs := hTs.gr hg4 (fun _ e => by cases e; omega)
  replace hb_g10 := hb_g10.gr hg4 (by intro e; cases e; omega)
  replace ho18 := Own.gr ho18 hg4 (by first | exact .inl rfl | (right; intro e; first | (have := hq_ho18 _ e; omega) | (have := Own.lt ho18 e; omega) | exact own_blk_ne ho18 hb_gx (by decide) e))
  replace hb_gx := hN4
  refine q_nil (k_then (q_ret (k_thenR ?_)))
  refine e_ret0 rfl ?_
  exact ⟨rfl, ⟨A18, c18, hb_gx, ho18⟩, hG⟩

theorem listTw (w : World) (gx gc : Nat) (A : Option Addr) (c : Nat) (out : List UInt8) (bad : Bool) (hb_gx : Blk w gx 92 [.pointer (some ⟨gc, 0, none⟩), .pointer none, .slice A (out).length c, .bool bad]) (ho : OwnB w (gx + 1) 5 A c out) (hol : out.length ≤ 35184372088832) (cm : Cmd) (K : Option Addr) (ck : Nat) (V : Option Addr) (cv : Nat) (T : Option Addr) (ct : Nat) (hb_gc : Blk w gc 58 (cmdc cm K ck V cv T ct)) (hgc : gc ≠ gx) (lol hil : Nat) (hTs : RdS w lol hil T ct cm.tags) (hlx : gx < lol ∨ hil ≤ gx) (hlh : hil ≤ w.heap.size) (hW : out.length + (wl cm.tags).length ≤ 35184372088832) : Fn Try.prog 56 #[.pointer (some ⟨gx, 0, none⟩), .pointer (some ⟨gc, 4, none⟩), .int .i64 0, .int .i64 16, .func (.func 57) #[] #[]] w (fun v w' => v = .tuple #[] ∧ (∃ A' c', Blk w' gx 92 [.pointer (some ⟨gc, 0, none⟩), .pointer none, .slice A' ((wlst 0 16 tv (out, bad) cm.tags).1).length c', .bool (wlst 0 16 tv (out, bad) cm.tags).2] ∧ OwnB w' (gx + 1) 5 A' c' ((wlst 0 16 tv (out, bad) cm.tags).1)) ∧ Gr w w' (some gx)) := by
  by_cases h : cm.tags.length < 0 ∨ 16 < cm.tags.length
  · rw [wlst_bad h]; exact listTw_bad w gx gc A c out bad hb_gx ho hol cm K ck V cv T ct hb_gc hgc lol hil hTs hlx hlh hW h
  · rw [wlst_ok h]; exact listTw_ok w gx gc A c out bad hb_gx ho hol cm K ck V cv T ct hb_gc hgc lol hil hTs hlx hlh hW (by omega) (by omega)

end Go.Proofs.Ytohnkjjjejnkpaa
