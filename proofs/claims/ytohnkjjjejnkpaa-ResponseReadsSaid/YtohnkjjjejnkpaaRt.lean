/-
  The reference: numbers and bytes read.
-/
import Derived.Test.YtohnkjjjejnkpaaRm
namespace Go.Proofs.Ytohnkjjjejnkpaa
open Go.RowKit
set_option linter.unusedVariables false
set_option maxRecDepth 4000
theorem ag78_2 : aggTy Try.prog 78 2 = true := by kernel_rfl
theorem cl50 : callable Try.prog 50 = true := by kernel_rfl
theorem fo78_0 : fieldOff Try.prog 78 0 = some 0 := by kernel_rfl
theorem fo78_1 : fieldOff Try.prog 78 1 = some 1 := by kernel_rfl
theorem pl78 : placesOf Try.prog 78 = some [(0, 1), (1, 1)] := by kernel_rfl
theorem sz78 : (Try.prog.info? 78).map (·.size) = some 2 := by kernel_rfl
theorem ze78 : zeroOf Try.prog 78 = some (.agg #[(.slice none 0 0), (.bool false)]) := by kernel_rfl

/-- What is left of the bytes, as the reference keeps it, and whether something was wrong. -/
def numX (l : List UInt8) (b : Bool) : Nat × List UInt8 × Bool := if (vget l).2.2 = 0 then (nV l, nR l, b) else (0, [], true)
def bytX (l : List UInt8) (b : Bool) : List UInt8 × List UInt8 × Bool := if (vpart l 65536).2.2 = 0 then (bV l, bR l, b) else ([], [], true)
theorem numX_ok {l : List UInt8} (b : Bool) (h : (vget l).2.2 = 0) : numX l b = (nV l, l.drop (vget l).2.1, b) := if_pos h
theorem numX_bad {l : List UInt8} (b : Bool) (h : ¬ (vget l).2.2 = 0) : numX l b = (0, [], true) := if_neg h
theorem bytX_ok {l : List UInt8} (b : Bool) (h : (vpart l 65536).2.2 = 0) : bytX l b = ((vpart l 65536).1, l.drop (vpart l 65536).2.1, b) := if_pos h
theorem bytX_bad {l : List UInt8} (b : Bool) (h : ¬ (vpart l 65536).2.2 = 0) : bytX l b = ([], [], true) := if_neg h
theorem numX_len (l : List UInt8) (b : Bool) : (numX l b).2.1.length ≤ l.length := by
  unfold numX; split
  · exact nR_len l
  · exact Nat.zero_le _
theorem bytX_len (l : List UInt8) (b : Bool) : (bytX l b).2.1.length ≤ l.length ∧ (bytX l b).1.length ≤ l.length := by
  unfold bytX; split
  · exact ⟨bR_len l, bV_len l⟩
  · exact ⟨Nat.zero_le _, Nat.zero_le _⟩
theorem numX_lt (l : List UInt8) (b : Bool) : (numX l b).1 < 18446744073709551616 := by
  unfold numX; split
  · exact nV_lt l
  · decide

theorem xnum_any (w : World) (lo hi : Nat) (A : Option Addr) (c : Nat) (l : List UInt8) (b : Bool) (hr : RdB w lo hi A c l) (hhi : hi ≤ w.heap.size) (hlen : l.length ≤ 140737488355328) :
    Fn Try.prog 32 #[(.agg #[(.slice A l.length c), (.bool b)])] w (fun v w' => ∃ A c, v = .tuple #[.int .u64 ((numX l b).1 : Int), .agg #[.slice A (numX l b).2.1.length c, .bool (numX l b).2.2]] ∧ RdB w' lo hi A c (numX l b).2.1 ∧ Ext w w')  := by
  have hE := ext_refl w
  refine fn_enter (args := [(.agg #[(.slice A l.length c), (.bool b)])]) Try.func32 rfl rfl rfl ?_
  show WC _ _ _ _ [(0, (.agg #[(.slice A l.length c), (.bool b)]))] _
  refine wc_seq (wc_regionL ?_)
  refine wl_step (or_box (cs := [(.slice A l.length c), (.bool b)]) rfl rfl) rfl rfl rfl ?_
  rintro v w1 ⟨g1, rfl, hb_g1, he1, hl1, hu1⟩
  replace hr := hr.ext he1
  replace hE := hE.tr he1
  have hz_he1 := he1.size
  refine va rfl rfl ?_
  refine wl_step (or_alloc (cs := [(.slice none 0 0), (.bool false)]) ze78 rfl) rfl rfl rfl ?_
  rintro v w2 ⟨g3, rfl, hb_g3, he3, hl3, hu3⟩
  replace hr := hr.ext he3
  replace hE := hE.tr he3
  replace hb_g1 := hb_g1.ext he3
  have hz_he3 := he3.size
  refine q_nil (k_then (wc_seq (wc_regionL ?_)))
  refine wl_val (ov_field0 (off := 0) fo78_0 rfl) rfl rfl rfl ?_
  refine wl_val (ov_loadAt oc32 rfl hb_g1 rfl) rfl rfl rfl ?_
  refine wl_val (or_call0 cl49 rfl rfl (rget_any _ _ _ _ _ l hr)) rfl rfl rfl ?_
  refine vm rfl rfl ?_
  iterate 3 refine vx rfl rfl rfl ?_
  iterate 3 refine va rfl rfl ?_
  refine q_nil (k_then (wc_seq (wc_seq (wc_regionL ?_))))
  refine vm rfl rfl ?_
  refine wl_val (ov_neq rfl rfl) rfl rfl rfl ?_
  refine q_nil (k_then ?_)
  refine wc_cond_d rfl (fun hc1 => ?_) (fun hc1 => ?_)
  · have e1 := numX_bad (l := l) b (by omega)
    refine wc_seq (wc_regionL ?_)
    refine wl_val (ov_build (cs := [(.slice none 0 0), (.bool true)]) ze78 pl78 rfl rfl) rfl rfl rfl ?_
    refine va rfl rfl ?_
    refine wl_step0 (or_storeBlk (vs := [(.slice none 0 0), (.bool true)]) sz78 rfl rfl (by simp [Value.oneCell']) hb_g3 rfl) rfl rfl ?_
    rintro _ w3 ⟨hN3, hg3⟩
    have hz_hg3 := hg3.size
    replace hr := hr.gr hg3 (fun _ e => by cases e; omega)
    replace hE := hE.gr hg3 (fun _ e => by cases e; omega)
    replace hb_g1 := hb_g1.gr hg3 (by intro e; cases e; omega)
    replace hb_g3 := hN3
    refine q_nil (k_then (q_ret (k_thenR ?_)))
    refine e_retL (rs := [.tmp 2, .cell 3 78]) (vs := [(.int .u64 0), .agg #[(.slice none 0 0), (.bool true)]]) rfl ⟨rfl, ⟨_, _, [(.slice none 0 0), (.bool true)], rfl, ag78_2, hb_g3, rfl⟩, trivial⟩ ?_
    rw [e1]
    exact ⟨none, 0, rfl, RdB.nil _ _ _, hE⟩
  · have e1 := numX_ok (l := l) b (by omega)
    have hvs := vget_size l
    refine q_skip (k_then (wc_seq ?_))
    refine wc_draw mixed 9 [(17, eqv (.int .u64 (↑(vget l).1 : Int))), (18, eqv (.pointer (some ⟨g1, 0, none⟩))), (19, eqv (.slice A l.length c)), (20, eqv (.int .i64 (↑(vget l).2.1 : Int))), (21, (fun v wz => ∃ A c, v = .slice A (l.drop (vget l).2.1).length c ∧ RdB wz lo hi A c (l.drop (vget l).2.1))), (22, eqv (.pointer (some ⟨g1, 1, none⟩))), (23, eqv (.bool b)), (24, (fun v w => ∃ A21 c21, v = (.agg #[(.slice A21 (l.drop (vget l).2.1).length c21), (.bool b)]) ∧ RdB w lo hi A21 c21 (l.drop (vget l).2.1))), (2, eqv (.int .u64 (↑(vget l).1 : Int)))] [[], [], [1], [], [2, 3], [], [5], [4, 6], [0]] [(1, (.pointer (some ⟨g1, 0, none⟩))), (3, (.pointer (some ⟨g3, 0, none⟩))), (4, (.int .u64 (↑(vget l).1 : Int))), (5, (.int .i64 (↑(vget l).2.1 : Int)))] [] [] (Env.sub_get ⟨rfl, rfl, rfl, rfl, trivial⟩) trivial (by kernel_rfl) rfl ⟨⟨stb_eqv _, fun _ he => by cases he⟩, ⟨stb_eqv _, fun _ he => by cases he⟩, ⟨stb_eqv _, fun _ he => by cases he⟩, ⟨stb_eqv _, fun _ he => by cases he⟩, ⟨(fun v w1 w2 ⟨A, c, hv, ho⟩ he => ⟨A, c, hv, ho.ext he⟩), fun _ he => by cases he⟩, ⟨stb_eqv _, fun _ he => by cases he⟩, ⟨stb_eqv _, fun _ he => by cases he⟩, ⟨(fun v w w' ⟨A21, c21, hb, hr21⟩ he => ⟨A21, c21, hb, Rd.ext hr21 he⟩), fun _ he => by cases he⟩, ⟨stb_eqv _, fun _ he => by cases he⟩, trivial⟩ ⟨?_, ?_, ?_, ?_, ?_, ?_, ?_, ?_, ?_, trivial⟩ ?_
    · intro wd hxE
      replace hr := hr.ext hxE
      replace hE := hE.tr hxE
      replace hb_g1 := hb_g1.ext hxE
      replace hb_g3 := hb_g3.ext hxE
      have hz_hxE := hxE.size
      show OpG _ _ _ _ _ _
      exact og_plain rfl (ox_val (ov_move rfl))
    · intro wd hxE
      replace hr := hr.ext hxE
      replace hE := hE.tr hxE
      replace hb_g1 := hb_g1.ext hxE
      replace hb_g3 := hb_g3.ext hxE
      have hz_hxE := hxE.size
      show OpG _ _ _ _ _ _
      exact og_plain rfl (ox_val (ov_field0 (off := 0) fo78_0 rfl))
    · intro wd hxE
      replace hr := hr.ext hxE
      replace hE := hE.tr hxE
      replace hb_g1 := hb_g1.ext hxE
      replace hb_g3 := hb_g3.ext hxE
      have hz_hxE := hxE.size
      rintro _ rfl
      show OpG _ _ _ _ _ _
      exact og_plain rfl (ox_val (ov_loadAt oc32 rfl hb_g1 rfl))
    · intro wd hxE
      replace hr := hr.ext hxE
      replace hE := hE.tr hxE
      replace hb_g1 := hb_g1.ext hxE
      replace hb_g3 := hb_g3.ext hxE
      have hz_hxE := hxE.size
      show OpG _ _ _ _ _ _
      exact og_plain rfl (ox_val (ov_move rfl))
    · intro wd hxE
      replace hr := hr.ext hxE
      replace hE := hE.tr hxE
      replace hb_g1 := hb_g1.ext hxE
      replace hb_g3 := hb_g3.ext hxE
      have hz_hxE := hxE.size
      rintro _ rfl
      rintro _ rfl
      show OpG _ _ _ _ _ _
      have hcap21 := RdB.cap hr
      refine og_plain rfl (OpRun.mono (or_bslice bt32 rfl hr (bounds_l rfl (by omega) (by omega)) (by omega) (by omega) (by omega) (by omega)) ?_)
      rintro v _ ⟨rfl, A21, c21, rfl, hr21, hl21⟩
      have hs21 : (l.drop (Int.toNat (↑(vget l).2.1 : Int))).take (l.length - (Int.toNat (↑(vget l).2.1 : Int))) = (l.drop (vget l).2.1) := cut_l l (by omega)
      rw [hs21] at hr21 hl21; rw [hs21]; clear hs21
      exact ⟨⟨A21, c21, rfl, hr21⟩, ext_refl _⟩
    · intro wd hxE
      replace hr := hr.ext hxE
      replace hE := hE.tr hxE
      replace hb_g1 := hb_g1.ext hxE
      replace hb_g3 := hb_g3.ext hxE
      have hz_hxE := hxE.size
      show OpG _ _ _ _ _ _
      exact og_plain rfl (ox_val (ov_field0 (off := 1) fo78_1 rfl))
    · intro wd hxE
      replace hr := hr.ext hxE
      replace hE := hE.tr hxE
      replace hb_g1 := hb_g1.ext hxE
      replace hb_g3 := hb_g3.ext hxE
      have hz_hxE := hxE.size
      rintro _ rfl
      show OpG _ _ _ _ _ _
      exact og_plain rfl (ox_val (ov_loadAt oc4 rfl hb_g1 rfl))
    · intro wd hxE
      replace hr := hr.ext hxE
      replace hE := hE.tr hxE
      replace hb_g1 := hb_g1.ext hxE
      replace hb_g3 := hb_g3.ext hxE
      have hz_hxE := hxE.size
      rintro _ ⟨A21, c21, rfl, hr21⟩
      rintro _ rfl
      show OpG _ _ _ _ _ _
      refine og_plain rfl (OpRun.mono (ov_build (cs := [(.slice A21 (l.drop (vget l).2.1).length c21), (.bool b)]) ze78 pl78 rfl rfl) ?_)
      rintro v _ ⟨rfl, rfl⟩
      exact ⟨⟨A21, c21, rfl, hr21⟩, ext_refl _⟩
    · intro wd hxE
      replace hr := hr.ext hxE
      replace hE := hE.tr hxE
      replace hb_g1 := hb_g1.ext hxE
      replace hb_g3 := hb_g3.ext hxE
      have hz_hxE := hxE.size
      rintro _ rfl
      show OpG _ _ _ _ _ _
      exact og_plain rfl (ox_val (ov_assign rfl))
    · intro wf4 hf4
      replace hr := hr.ext hf4
      replace hE := hE.tr hf4
      replace hb_g1 := hb_g1.ext hf4
      replace hb_g3 := hb_g3.ext hf4
      have hz_hf4 := hf4.size
      rintro _ rfl
      rintro _ rfl
      rintro _ rfl
      rintro _ rfl
      rintro _ ⟨A21, c21, rfl, hr21⟩
      rintro _ rfl
      rintro _ rfl
      rintro _ ⟨A21, c21, rfl, hr21⟩
      rintro _ rfl
      show WL _ _ _ [_] _ _ _
      refine wl_step0 (or_storeBlk (vs := [(.slice A21 (l.drop (vget l).2.1).length c21), (.bool b)]) sz78 rfl rfl (by simp [Value.oneCell']) hb_g3 rfl) rfl rfl ?_
      rintro _ w203 ⟨hN203, hg203⟩
      have hz_hg203 := hg203.size
      replace hr := hr.gr hg203 (fun _ e => by cases e; omega)
      replace hE := hE.gr hg203 (fun _ e => by cases e; omega)
      replace hb_g1 := hb_g1.gr hg203 (by intro e; cases e; omega)
      replace hr21 := hr21.gr hg203 (fun _ e => by cases e; omega)
      replace hb_g3 := hN203
      refine q_nil (k_then (q_ret ?_))
      refine e_retL (rs := [.tmp 2, .cell 3 78]) (vs := [(.int .u64 (↑(vget l).1 : Int)), .agg #[(.slice A21 (l.drop (vget l).2.1).length c21), (.bool b)]]) rfl ⟨rfl, ⟨_, _, [(.slice A21 (l.drop (vget l).2.1).length c21), (.bool b)], rfl, ag78_2, hb_g3, rfl⟩, trivial⟩ ?_
      rw [e1]
      exact ⟨A21, c21, rfl, hr21, hE⟩

theorem xbyt_any (w : World) (lo hi : Nat) (A : Option Addr) (c : Nat) (l : List UInt8) (b : Bool) (hr : RdB w lo hi A c l) (hhi : hi ≤ w.heap.size) (hlen : l.length ≤ 140737488355328) :
    Fn Try.prog 33 #[(.agg #[(.slice A l.length c), (.bool b)])] w (fun v w' => ∃ V cv A c, v = .tuple #[.slice V (bytX l b).1.length cv, .agg #[.slice A (bytX l b).2.1.length c, .bool (bytX l b).2.2]] ∧ OwnB w' w.heap.size 5 V cv (bytX l b).1 ∧ RdB w' lo hi A c (bytX l b).2.1 ∧ Ext w w')  := by
  have hE := ext_refl w
  refine fn_enter (args := [(.agg #[(.slice A l.length c), (.bool b)])]) Try.func33 rfl rfl rfl ?_
  show WC _ _ _ _ [(0, (.agg #[(.slice A l.length c), (.bool b)]))] _
  refine wc_seq (wc_regionL ?_)
  refine wl_step (or_box (cs := [(.slice A l.length c), (.bool b)]) rfl rfl) rfl rfl rfl ?_
  rintro v w1 ⟨g1, rfl, hb_g1, he1, hl1, hu1⟩
  replace hr := hr.ext he1
  replace hE := hE.tr he1
  have hz_he1 := he1.size
  refine va rfl rfl ?_
  refine wl_step (or_alloc (cs := [(.slice none 0 0), (.bool false)]) ze78 rfl) rfl rfl rfl ?_
  rintro v w2 ⟨g3, rfl, hb_g3, he3, hl3, hu3⟩
  replace hr := hr.ext he3
  replace hE := hE.tr he3
  replace hb_g1 := hb_g1.ext he3
  have hz_he3 := he3.size
  refine q_nil (k_then (wc_seq (wc_regionL ?_)))
  refine wl_val (ov_field0 (off := 0) fo78_0 rfl) rfl rfl rfl ?_
  refine wl_val (ov_loadAt oc32 rfl hb_g1 rfl) rfl rfl rfl ?_
  refine wl_step (or_call0 cl50 rfl rfl (rgetbytes_any _ _ _ _ _ l 65536 (by omega) hr (by omega))) rfl rfl rfl ?_
  rintro v w3 ⟨A10, c10, rfl, ho10, he10⟩
  replace hr := hr.ext he10
  replace hE := hE.tr he10
  replace hb_g1 := hb_g1.ext he10
  replace hb_g3 := hb_g3.ext he10
  have hz_he10 := he10.size
  have hq_ho10 := fun g e => Own.lt ho10 (g := g) e
  refine vm rfl rfl ?_
  iterate 3 refine vx rfl rfl rfl ?_
  iterate 3 refine va rfl rfl ?_
  refine q_nil (k_then (wc_seq (wc_seq (wc_regionL ?_))))
  refine vm rfl rfl ?_
  refine wl_val (ov_neq rfl rfl) rfl rfl rfl ?_
  refine q_nil (k_then ?_)
  refine wc_cond_d rfl (fun hc1 => ?_) (fun hc1 => ?_)
  · have e1 := bytX_bad (l := l) b (by omega)
    refine wc_seq (wc_regionL ?_)
    refine wl_val (ov_build (cs := [(.slice none 0 0), (.bool true)]) ze78 pl78 rfl rfl) rfl rfl rfl ?_
    refine va rfl rfl ?_
    refine wl_step0 (or_storeBlk (vs := [(.slice none 0 0), (.bool true)]) sz78 rfl rfl (by simp [Value.oneCell']) hb_g3 rfl) rfl rfl ?_
    rintro _ w4 ⟨hN4, hg4⟩
    have hz_hg4 := hg4.size
    replace hr := hr.gr hg4 (fun _ e => by cases e; omega)
    replace hE := hE.gr hg4 (fun _ e => by cases e; omega)
    replace hb_g1 := hb_g1.gr hg4 (by intro e; cases e; omega)
    replace ho10 := Own.gr ho10 hg4 (by first | exact .inl rfl | (right; intro e; first | (have := hq_ho10 _ e; omega) | (have := Own.lt ho10 e; omega) | exact own_blk_ne ho10 hb_g3 (by decide) e))
    replace hb_g3 := hN4
    refine q_nil (k_then (q_ret (k_thenR ?_)))
    refine e_retL (rs := [.tmp 2, .cell 3 78]) (vs := [(.slice none 0 0), .agg #[(.slice none 0 0), (.bool true)]]) rfl ⟨rfl, ⟨_, _, [(.slice none 0 0), (.bool true)], rfl, ag78_2, hb_g3, rfl⟩, trivial⟩ ?_
    rw [e1]
    exact ⟨none, 0, none, 0, rfl, Own.nil_ _ _ _ _, RdB.nil _ _ _, hE⟩
  · have e1 := bytX_ok (l := l) b (by omega)
    have hvp := vpart_props l 65536
    refine q_skip (k_then (wc_seq ?_))
    refine wc_draw mixed 9 [(17, eqv (.slice A10 (vpart l 65536).1.length c10)), (18, eqv (.pointer (some ⟨g1, 0, none⟩))), (19, eqv (.slice A l.length c)), (20, eqv (.int .i64 (↑(vpart l 65536).2.1 : Int))), (21, (fun v wz => ∃ A c, v = .slice A (l.drop (vpart l 65536).2.1).length c ∧ RdB wz lo hi A c (l.drop (vpart l 65536).2.1))), (22, eqv (.pointer (some ⟨g1, 1, none⟩))), (23, eqv (.bool b)), (24, (fun v w => ∃ A21 c21, v = (.agg #[(.slice A21 (l.drop (vpart l 65536).2.1).length c21), (.bool b)]) ∧ RdB w lo hi A21 c21 (l.drop (vpart l 65536).2.1))), (2, eqv (.slice A10 (vpart l 65536).1.length c10))] [[], [], [1], [], [2, 3], [], [5], [4, 6], [0]] [(1, (.pointer (some ⟨g1, 0, none⟩))), (3, (.pointer (some ⟨g3, 0, none⟩))), (4, (.slice A10 (vpart l 65536).1.length c10)), (5, (.int .i64 (↑(vpart l 65536).2.1 : Int)))] [] [] (Env.sub_get ⟨rfl, rfl, rfl, rfl, trivial⟩) trivial (by kernel_rfl) rfl ⟨⟨stb_eqv _, fun _ he => by cases he⟩, ⟨stb_eqv _, fun _ he => by cases he⟩, ⟨stb_eqv _, fun _ he => by cases he⟩, ⟨stb_eqv _, fun _ he => by cases he⟩, ⟨(fun v w1 w2 ⟨A, c, hv, ho⟩ he => ⟨A, c, hv, ho.ext he⟩), fun _ he => by cases he⟩, ⟨stb_eqv _, fun _ he => by cases he⟩, ⟨stb_eqv _, fun _ he => by cases he⟩, ⟨(fun v w w' ⟨A21, c21, hb, hr21⟩ he => ⟨A21, c21, hb, Rd.ext hr21 he⟩), fun _ he => by cases he⟩, ⟨stb_eqv _, fun _ he => by cases he⟩, trivial⟩ ⟨?_, ?_, ?_, ?_, ?_, ?_, ?_, ?_, ?_, trivial⟩ ?_
    · intro wd hxE
      replace hr := hr.ext hxE
      replace hE := hE.tr hxE
      replace hb_g1 := hb_g1.ext hxE
      replace hb_g3 := hb_g3.ext hxE
      replace ho10 := Own.ext ho10 hxE
      have hz_hxE := hxE.size
      show OpG _ _ _ _ _ _
      exact og_plain rfl (ox_val (ov_move rfl))
    · intro wd hxE
      replace hr := hr.ext hxE
      replace hE := hE.tr hxE
      replace hb_g1 := hb_g1.ext hxE
      replace hb_g3 := hb_g3.ext hxE
      replace ho10 := Own.ext ho10 hxE
      have hz_hxE := hxE.size
      show OpG _ _ _ _ _ _
      exact og_plain rfl (ox_val (ov_field0 (off := 0) fo78_0 rfl))
    · intro wd hxE
      replace hr := hr.ext hxE
      replace hE := hE.tr hxE
      replace hb_g1 := hb_g1.ext hxE
      replace hb_g3 := hb_g3.ext hxE
      replace ho10 := Own.ext ho10 hxE
      have hz_hxE := hxE.size
      rintro _ rfl
      show OpG _ _ _ _ _ _
      exact og_plain rfl (ox_val (ov_loadAt oc32 rfl hb_g1 rfl))
    · intro wd hxE
      replace hr := hr.ext hxE
      replace hE := hE.tr hxE
      replace hb_g1 := hb_g1.ext hxE
      replace hb_g3 := hb_g3.ext hxE
      replace ho10 := Own.ext ho10 hxE
      have hz_hxE := hxE.size
      show OpG _ _ _ _ _ _
      exact og_plain rfl (ox_val (ov_move rfl))
    · intro wd hxE
      replace hr := hr.ext hxE
      replace hE := hE.tr hxE
      replace hb_g1 := hb_g1.ext hxE
      replace hb_g3 := hb_g3.ext hxE
      replace ho10 := Own.ext ho10 hxE
      have hz_hxE := hxE.size
      rintro _ rfl
      rintro _ rfl
      show OpG _ _ _ _ _ _
      have hcap21 := RdB.cap hr
      refine og_plain rfl (OpRun.mono (or_bslice bt32 rfl hr (bounds_l rfl (by omega) (by omega)) (by omega) (by omega) (by omega) (by omega)) ?_)
      rintro v _ ⟨rfl, A21, c21, rfl, hr21, hl21⟩
      have hs21 : (l.drop (Int.toNat (↑(vpart l 65536).2.1 : Int))).take (l.length - (Int.toNat (↑(vpart l 65536).2.1 : Int))) = (l.drop (vpart l 65536).2.1) := cut_l l (by omega)
      rw [hs21] at hr21 hl21; rw [hs21]; clear hs21
      exact ⟨⟨A21, c21, rfl, hr21⟩, ext_refl _⟩
    · intro wd hxE
      replace hr := hr.ext hxE
      replace hE := hE.tr hxE
      replace hb_g1 := hb_g1.ext hxE
      replace hb_g3 := hb_g3.ext hxE
      replace ho10 := Own.ext ho10 hxE
      have hz_hxE := hxE.size
      show OpG _ _ _ _ _ _
      exact og_plain rfl (ox_val (ov_field0 (off := 1) fo78_1 rfl))
    · intro wd hxE
      replace hr := hr.ext hxE
      replace hE := hE.tr hxE
      replace hb_g1 := hb_g1.ext hxE
      replace hb_g3 := hb_g3.ext hxE
      replace ho10 := Own.ext ho10 hxE
      have hz_hxE := hxE.size
      rintro _ rfl
      show OpG _ _ _ _ _ _
      exact og_plain rfl (ox_val (ov_loadAt oc4 rfl hb_g1 rfl))
    · intro wd hxE
      replace hr := hr.ext hxE
      replace hE := hE.tr hxE
      replace hb_g1 := hb_g1.ext hxE
      replace hb_g3 := hb_g3.ext hxE
      replace ho10 := Own.ext ho10 hxE
      have hz_hxE := hxE.size
      rintro _ ⟨A21, c21, rfl, hr21⟩
      rintro _ rfl
      show OpG _ _ _ _ _ _
      refine og_plain rfl (OpRun.mono (ov_build (cs := [(.slice A21 (l.drop (vpart l 65536).2.1).length c21), (.bool b)]) ze78 pl78 rfl rfl) ?_)
      rintro v _ ⟨rfl, rfl⟩
      exact ⟨⟨A21, c21, rfl, hr21⟩, ext_refl _⟩
    · intro wd hxE
      replace hr := hr.ext hxE
      replace hE := hE.tr hxE
      replace hb_g1 := hb_g1.ext hxE
      replace hb_g3 := hb_g3.ext hxE
      replace ho10 := Own.ext ho10 hxE
      have hz_hxE := hxE.size
      rintro _ rfl
      show OpG _ _ _ _ _ _
      exact og_plain rfl (ox_val (ov_assign rfl))
    · intro wf4 hf4
      replace hr := hr.ext hf4
      replace hE := hE.tr hf4
      replace hb_g1 := hb_g1.ext hf4
      replace hb_g3 := hb_g3.ext hf4
      replace ho10 := Own.ext ho10 hf4
      have hz_hf4 := hf4.size
      rintro _ rfl
      rintro _ rfl
      rintro _ rfl
      rintro _ rfl
      rintro _ ⟨A21, c21, rfl, hr21⟩
      rintro _ rfl
      rintro _ rfl
      rintro _ ⟨A21, c21, rfl, hr21⟩
      rintro _ rfl
      show WL _ _ _ [_] _ _ _
      refine wl_step0 (or_storeBlk (vs := [(.slice A21 (l.drop (vpart l 65536).2.1).length c21), (.bool b)]) sz78 rfl rfl (by simp [Value.oneCell']) hb_g3 rfl) rfl rfl ?_
      rintro _ w204 ⟨hN204, hg204⟩
      have hz_hg204 := hg204.size
      replace hr := hr.gr hg204 (fun _ e => by cases e; omega)
      replace hE := hE.gr hg204 (fun _ e => by cases e; omega)
      replace hb_g1 := hb_g1.gr hg204 (by intro e; cases e; omega)
      replace ho10 := Own.gr ho10 hg204 (by first | exact .inl rfl | (right; intro e; first | (have := hq_ho10 _ e; omega) | (have := Own.lt ho10 e; omega) | exact own_blk_ne ho10 hb_g3 (by decide) e))
      replace hr21 := hr21.gr hg204 (fun _ e => by cases e; omega)
      replace hb_g3 := hN204
      refine q_nil (k_then (q_ret ?_))
      refine e_retL (rs := [.tmp 2, .cell 3 78]) (vs := [(.slice A10 (vpart l 65536).1.length c10), .agg #[(.slice A21 (l.drop (vpart l 65536).2.1).length c21), (.bool b)]]) rfl ⟨rfl, ⟨_, _, [(.slice A21 (l.drop (vpart l 65536).2.1).length c21), (.bool b)], rfl, ag78_2, hb_g3, rfl⟩, trivial⟩ ?_
      rw [e1]
      exact ⟨A10, c10, A21, c21, rfl, Own.mono ho10 (by omega), hr21, hE⟩

/-- The head of what the reference reads: n, version, items, numbers, rest, bad. -/
def hX (op : Int) (l : List UInt8) (b : Bool) : Nat × Nat × Nat × Nat × List UInt8 × Bool :=
  if needsN op = 119 then ((numX (numX l b).2.1 (numX l b).2.2).1, (numX l b).1, 0, 0, (numX (numX l b).2.1 (numX l b).2.2).2) else if needsN op = 105 then (0, 0, 1, 0, l, b)
  else if needsN op = 109 then (0, 0, (numX l b).1, 0, (numX l b).2) else if needsN op = 99 then ((numX l b).1, 0, 0, 0, (numX l b).2) else if needsN op = 110 then (0, 0, 0, (numX l b).1, (numX l b).2) else (0, 0, 0, 0, l, b)
def it3 (v p q : Nat) (y : List UInt8 × List UInt8 × Bool) : Itm × List UInt8 × Bool := (⟨v, y.1, p, q⟩, y.2)
def it2 (v p : Nat) (q : Nat × List UInt8 × Bool) : Itm × List UInt8 × Bool := it3 v p q.1 (bytX q.2.1 q.2.2)
def it1 (v : Nat) (p : Nat × List UInt8 × Bool) : Itm × List UInt8 × Bool := it2 v p.1 (numX p.2.1 p.2.2)
def itX (l : List UInt8) (b : Bool) : Itm × List UInt8 × Bool := if (numX l b).1 = 0 then (zI, (numX l b).2) else it1 (numX l b).1 (numX (numX l b).2.1 (numX l b).2.2)
def xS : Nat → List UInt8 → Bool → List Itm × List UInt8 × Bool
  | 0, l, b => ([], l, b)
  | k + 1, l, b => ((xS k l b).1 ++ [(itX (xS k l b).2.1 (xS k l b).2.2).1], (itX (xS k l b).2.1 (xS k l b).2.2).2)
def xM : Nat → List UInt8 → Bool → Bool
  | 0, _, _ => true
  | k + 1, l, b => xM k l b && decide ((numX (xS k l b).2.1 (xS k l b).2.2).1 ≤ 2)
def kS : Nat → List UInt8 → Bool → List Nat × List UInt8 × Bool
  | 0, l, b => ([], l, b)
  | k + 1, l, b => ((kS k l b).1 ++ [(numX (kS k l b).2.1 (kS k l b).2.2).1], (numX (kS k l b).2.1 (kS k l b).2.2).2)
theorem xM_mono {l : List UInt8} {b : Bool} {k : Nat} (h : xM k l b = false) : ∀ n, k ≤ n → xM n l b = false
  | 0, hn => by have : k = 0 := by omega
                subst this; exact h
  | n + 1, hn => by
    by_cases e : k = n + 1
    · subst e; exact h
    · rw [xM, xM_mono h n (by omega)]; rfl
/-- The response that the reference reads, and whether there is one. -/
def finX (r : Rsp) (s : List UInt8 × Bool) : Rsp × Bool := if s.2 = false ∧ s.1.length = 0 ∧ RV r then (r, true) else (rspO 0 0, false)
def tl2 (op : Int) (n vr : Nat) (xs : List Itm) (k : List Nat × List UInt8 × Bool) : Rsp × Bool := finX ⟨op, 0, xs, vr, (n : Int), k.1⟩ k.2
def tl1 (op : Int) (n vr nu : Nat) (x : List Itm × List UInt8 × Bool) : Rsp × Bool := tl2 op n vr x.1 (kS nu x.2.1 x.2.2)
def tailX (op : Int) (h : Nat × Nat × Nat × Nat × List UInt8 × Bool) : Rsp × Bool :=
  if 1099511627776 < h.1 ∨ 16 < h.2.2.1 ∨ 64 < h.2.2.2.1 ∨ xM h.2.2.1 h.2.2.2.2.1 h.2.2.2.2.2 = false then (rspO 0 0, false) else tl1 op h.1 h.2.1 h.2.2.2.1 (xS h.2.2.1 h.2.2.2.2.1 h.2.2.2.2.2)
def refRd (op : Int) (l : List UInt8) : Rsp × Bool :=
  if ¬ (0 ≤ op ∧ op ≤ 15) ∨ 100000 < (numX l false).1 then (rspO 0 0, false)
  else if ¬ (numX l false).1 = 0 then finX (rspO op ((numX l false).1 : Int)) (numX l false).2
  else tailX op (hX op (numX l false).2.1 (numX l false).2.2)
theorem fin_bad {r : Rsp} {s : List UInt8 × Bool} (h : ¬ (s.2 = false ∧ s.1.length = 0 ∧ RV r)) : finX r s = (rspO 0 0, false) := if_neg h
theorem fin_ok {r : Rsp} {s : List UInt8 × Bool} (h : s.2 = false ∧ s.1.length = 0 ∧ RV r) : finX r s = (r, true) := if_pos h
theorem it1_len (v : Nat) (p : Nat × List UInt8 × Bool) : (it1 v p).2.1.length ≤ p.2.1.length := by
  have h3 := numX_len p.2.1 p.2.2
  have h4 := (bytX_len (numX p.2.1 p.2.2).2.1 (numX p.2.1 p.2.2).2.2).1
  exact Nat.le_trans h4 h3
theorem itX_zero {l l0 : List UInt8} {b b0 : Bool} {n0 : Nat} (e0 : numX l b = (n0, l0, b0)) (h0 : n0 = 0) : itX l b = (zI, l0, b0) := by
  unfold itX; rw [e0]; exact if_pos h0
theorem itX_full {l l0 l1 l2 l3 v3 : List UInt8} {b b0 b1 b2 b3 : Bool} {n0 n1 n2 : Nat} (e0 : numX l b = (n0, l0, b0)) (h0 : ¬ n0 = 0) (e1 : numX l0 b0 = (n1, l1, b1)) (e2 : numX l1 b1 = (n2, l2, b2)) (e3 : bytX l2 b2 = (v3, l3, b3)) : itX l b = (⟨(n0 : Int), v3, n1, n2⟩, l3, b3) := by
  unfold itX
  rw [e0]
  refine (if_neg h0).trans ?_
  show it1 n0 (numX l0 b0) = _
  rw [e1]
  show it2 n0 n1 (numX l1 b1) = _
  rw [e2]
  show it3 n0 n1 n2 (bytX l2 b2) = _
  rw [e3]
  rfl
theorem hX_W {op : Int} {l l1 l2 : List UInt8} {b b1 b2 : Bool} {v n : Nat} (h : needsN op = 119) (e1 : numX l b = (v, l1, b1)) (e2 : numX l1 b1 = (n, l2, b2)) : hX op l b = (n, v, 0, 0, l2, b2) := by
  unfold hX
  rw [if_pos h, e1]
  show ((numX l1 b1).1, v, 0, 0, (numX l1 b1).2) = _
  rw [e2]
theorem hX_I {op : Int} {l : List UInt8} {b : Bool} (h : needsN op = 105) : hX op l b = (0, 0, 1, 0, l, b) := by
  unfold hX; rw [if_neg (by rw [h]; decide), if_pos h]
theorem hX_M {op : Int} {l l1 : List UInt8} {b b1 : Bool} {n : Nat} (h : needsN op = 109) (e1 : numX l b = (n, l1, b1)) : hX op l b = (0, 0, n, 0, l1, b1) := by
  unfold hX; rw [if_neg (by rw [h]; decide), if_neg (by rw [h]; decide), if_pos h, e1]
theorem hX_C {op : Int} {l l1 : List UInt8} {b b1 : Bool} {n : Nat} (h : needsN op = 99) (e1 : numX l b = (n, l1, b1)) : hX op l b = (n, 0, 0, 0, l1, b1) := by
  unfold hX; rw [if_neg (by rw [h]; decide), if_neg (by rw [h]; decide), if_neg (by rw [h]; decide), if_pos h, e1]
theorem hX_N {op : Int} {l l1 : List UInt8} {b b1 : Bool} {n : Nat} (h : needsN op = 110) (e1 : numX l b = (n, l1, b1)) : hX op l b = (0, 0, 0, n, l1, b1) := by
  unfold hX; rw [if_neg (by rw [h]; decide), if_neg (by rw [h]; decide), if_neg (by rw [h]; decide), if_neg (by rw [h]; decide), if_pos h, e1]
theorem hX_0 {op : Int} {l : List UInt8} {b : Bool} (h1 : ¬ needsN op = 119) (h2 : ¬ needsN op = 105) (h3 : ¬ needsN op = 109) (h4 : ¬ needsN op = 99) (h5 : ¬ needsN op = 110) : hX op l b = (0, 0, 0, 0, l, b) := by
  unfold hX; rw [if_neg h1, if_neg h2, if_neg h3, if_neg h4, if_neg h5]
theorem itX_len (l : List UInt8) (b : Bool) : (itX l b).2.1.length ≤ l.length := by
  unfold itX
  split
  · exact numX_len l b
  · exact Nat.le_trans (it1_len _ _) (Nat.le_trans (numX_len _ _) (numX_len l b))
theorem xS_len (l : List UInt8) (b : Bool) : ∀ k, (xS k l b).1.length = k ∧ (xS k l b).2.1.length ≤ l.length
  | 0 => ⟨rfl, Nat.le_refl _⟩
  | k + 1 => by
    have h := xS_len l b k
    have h2 := itX_len (xS k l b).2.1 (xS k l b).2.2
    exact ⟨by rw [xS, List.length_append, h.1]; rfl, Nat.le_trans h2 h.2⟩
theorem kS_len (l : List UInt8) (b : Bool) : ∀ k, (kS k l b).1.length = k ∧ (kS k l b).2.1.length ≤ l.length
  | 0 => ⟨rfl, Nat.le_refl _⟩
  | k + 1 => by
    have h := kS_len l b k
    have h2 := numX_len (kS k l b).2.1 (kS k l b).2.2
    exact ⟨by rw [kS, List.length_append, h.1]; rfl, Nat.le_trans h2 h.2⟩

end Go.Proofs.Ytohnkjjjejnkpaa
