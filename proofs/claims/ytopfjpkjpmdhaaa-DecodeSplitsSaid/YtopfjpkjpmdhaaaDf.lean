/-
  The contracts of All, and of the checks that the laws of layer 6 are made of.
-/
import Derived.Test.YtopfjpkjpmdhaaaDe
namespace Go.Proofs.Ytopfjpkjpmdhaaa
open Go.RowKit
set_option linter.unusedVariables false
set_option maxRecDepth 4000
theorem cl32 : callable Try.prog 32 = true := by kernel_rfl
theorem cl35 : callable Try.prog 35 = true := by kernel_rfl
theorem cl38 : callable Try.prog 38 = true := by kernel_rfl
theorem cl46 : callable Try.prog 46 = true := by kernel_rfl
theorem cl59 : callable Try.prog 59 = true := by kernel_rfl
theorem oc23 : oneCellTy Try.prog 23 = true := by kernel_rfl
theorem sl64 : SliceTy Try.prog 64 3 1 8 (.int .i64 0) := sliceTy_mk Try.underlying64 (by kernel_rfl) rfl (by decide)
theorem ze60 : zeroOf Try.prog 60 = some (.slice none 0 0) := by kernel_rfl
theorem ze61 : zeroOf Try.prog 61 = some (.slice none 0 0) := by kernel_rfl

theorem FL.mono {w : World} {base b2 : Nat} {ys : List Got} (h : FL w base ys) (hb : b2 ≤ base) : FL w b2 ys := fun y hy => Own.mono (h y hy) hb
theorem got1_flat (ys : List Got) : ys.flatMap (fun y => [gote y]) = ys.map gote := by
  induction ys with
  | nil => rfl
  | cons y ys ih => rw [List.flatMap_cons, ih]; rfl
theorem Rd.gots {w : World} {lo hi c : Nat} {A : Option Addr} {ys : List Got} (h : Rd w lo hi 1 A ys.length c (ys.map gote)) : RdR w lo hi 1 (fun y : Got => [gote y]) A c ys := by
  unfold RdR; rw [got1_flat]; exact h
theorem gots_get {ys zs : List Got} {L : List ((UInt8 × List UInt8) × Nat)} (h1 : ys.map gotv = L) (h2 : zs.map gotv = L) {k : Nat} {y z : Got} (hy : ys[k]? = some y) (hz : zs[k]? = some z) : gotv y = gotv z := by
  have h := congrArg (fun l => l[k]?) (h1.trans h2.symm)
  simp [hy, hz] at h
  exact h

theorem dAll_ok (w : World) (lo2 hi2 : Nat) (A : Option Addr) (c : Nat) (q : List UInt8) (hr : RdB w lo2 hi2 A c q) (m : Nat) (hm : m ≤ 2097152) (hlq : q.length ≤ 1099511627776) :
    Fn Try.prog 32 #[(.slice A q.length c), (.int .i64 (↑m : Int))] w (fun v w' => ∃ A c B d ys, v = .tuple #[.slice A (List.length ys) c, .slice B ys.length d, .int .i64 0] ∧ Own w' w.heap.size 72 2 A ys.length c (ys.flatMap gotc) ∧ Own w' w.heap.size 23 1 B ys.length d (ys.map gote) ∧ FL w' w.heap.size ys ∧ ys.map gotv = dall m false q ∧ Ext w w')  := by
  replace hr := hr.top
  have hE := ext_refl w
  refine fn_enter (args := [(.slice A q.length c), (.int .i64 (↑m : Int))]) Try.func32 rfl rfl rfl ?_
  show WC _ _ _ _ [(0, (.slice A q.length c)), (1, (.int .i64 (↑m : Int)))] _
  refine wc_seq ?_
  refine wc_regionL ?_
  refine wl_val (ov_assign rfl) rfl rfl rfl ?_
  refine wl_val (ov_assign rfl) rfl rfl rfl ?_
  refine wl_val (ov_assign rfl) rfl rfl rfl ?_
  refine q_nil ?_
  refine k_then ?_
  refine wc_seq ?_
  refine wc_regionL ?_
  refine wl_val (ov_move rfl) rfl rfl rfl ?_
  refine wl_step (or_call0 cl35 rfl rfl (dnew_ok _ (m) (by omega))) rfl rfl rfl ?_
  rintro v w1 ⟨gn13, rfl, hb13, he13, hg113⟩
  replace hr := hr.ext he13
  replace hE := hE.tr he13
  have hz_he13 := he13.size
  have hDs13 : ∀ x, (none : Option Nat) = some x → w.heap.size ≤ x ∧ x < w1.heap.size := fun x e => by cases e
  have hzb13 := hb13.lt.1
  have hcp13 := hb13.cap
  have hnl13 : ([] : List UInt8).length = 0 := rfl
  refine wl_val (ov_move rfl) rfl rfl rfl ?_
  refine wl_val (ov_extract rfl rfl) rfl rfl rfl ?_
  refine wl_val (ov_extract rfl rfl) rfl rfl rfl ?_
  refine wl_val (ov_assign rfl) rfl rfl rfl ?_
  refine wl_val (ov_assign rfl) rfl rfl rfl ?_
  refine q_nil ?_
  refine k_then ?_
  refine wc_seq ?_
  refine wc_seq ?_
  refine wc_regionL ?_
  refine wl_val (ov_move rfl) rfl rfl rfl ?_
  refine wl_val (ov_neq rfl rfl) rfl rfl rfl ?_
  refine q_nil ?_
  refine k_then ?_
  refine wc_cond_f rfl ?_
  refine q_skip ?_
  refine k_then ?_
  refine wc_seq ?_
  refine wc_regionL ?_
  refine wl_val (ov_move rfl) rfl rfl rfl ?_
  refine wl_val (ov_move rfl) rfl rfl rfl ?_
  refine wl_step (or_call0 cl38 rfl rfl (dfeed_ok _ w.heap.size gn13 none (m) false ([] : List UInt8) hb13 (by first | omega | (simp; done)) _ _ _ _ q hr (by omega) (fun x e => by have := hDs13 x e; omega) (by omega) hlq)) rfl rfl rfl ?_
  rintro v w2 ⟨rfl, ⟨D21, hb21, hN21⟩, hC21⟩
  have hDa21 : ∀ x, none = some x → (w.heap.size ≤ x ∧ x < w1.heap.size) ∧ x < w1.heap.size := fun x e => ⟨hDs13 x e, (hb13.lt.2 x e).2⟩
  have hz_hC21 := hC21.size
  replace hr := hC21.rd hr (by omega) (fun x e => by have := hDa21 x e; omega)
  replace hE := hC21.e0 hE (by omega) (fun x e => by have := hDa21 x e; omega)
  replace hb21 : Dec _ w.heap.size gn13 D21 (m) false q := hb21
  have hDs21 : ∀ x, D21 = some x → ((w.heap.size ≤ x ∧ x < w1.heap.size) ∨ w1.heap.size ≤ x) ∧ x < w2.heap.size := fun x e => ⟨(hN21 x e).imp (fun h => hDs13 x h) id, (hb21.lt.2 x e).2⟩
  have hzb21 := hb21.lt.1
  have hcp21 := hb21.cap
  refine q_nil ?_
  refine k_then ?_
  refine wc_seq ?_
  refine wc_regionL ?_
  refine wl_step (or_alloc (cs := [(.slice none 0 0)]) ze60 rfl) rfl rfl rfl ?_
  rintro v w3 ⟨g9, rfl, hb_g9, he9, hl9, hu9⟩
  replace hr := hr.ext he9
  replace hE := hE.tr he9
  replace hb21 := hb21.ext he9
  have hz_he9 := he9.size
  refine q_nil ?_
  refine k_then ?_
  refine wc_seq ?_
  refine wc_regionL ?_
  refine wl_step (or_alloc (cs := [(.slice none 0 0)]) ze61 rfl) rfl rfl rfl ?_
  rintro v w4 ⟨g10, rfl, hb_g10, he10, hl10, hu10⟩
  replace hr := hr.ext he10
  replace hE := hE.tr he10
  replace hb21 := hb21.ext he10
  replace hb_g9 := hb_g9.ext he10
  have hz_he10 := he10.size
  refine q_nil ?_
  refine k_then ?_
  refine wc_seq ?_
  refine wc_regionL ?_
  refine wl_val (ov_move rfl) rfl rfl rfl ?_
  refine wl_step (or_call0 cl59 rfl rfl (dcollect_ok _ w w.heap.size gn13 D21 m false q hb21 hlq g9 g10 hb_g9 hb_g10 hE (by omega) (fun x e => by have := hDs21 x e; omega) (by omega) (by omega) (fun x e => by have := hDs21 x e; omega))) rfl rfl rfl ?_
  rintro v w5 ⟨rfl, A23, c23, B23, d23, ys23, hb_g9, ho23, hb_g10, hp23, hFL23, hv23, hE⟩
  have hq_ho23 := fun g e => Own.lt ho23 (g := g) e
  have hq_hp23 := fun g e => Own.lt hp23 (g := g) e
  refine q_nil ?_
  refine k_then ?_
  refine wc_seq ?_
  refine wc_draw mixed 3 [(24, eqv (.slice A23 ys23.length c23)), (25, eqv (.slice B23 ys23.length d23)), (4, eqv (.slice A23 ys23.length c23))] [[], [], [0]] [(5, (.slice none 0 0)), (6, (.int .i64 0)), (9, (.pointer (some ⟨g9, 0, none⟩))), (10, (.pointer (some ⟨g10, 0, none⟩)))] [] [] (Env.sub_get ⟨rfl, rfl, rfl, rfl, trivial⟩) trivial (by kernel_rfl) rfl ⟨⟨stb_eqv _, fun _ he => by cases he⟩, ⟨stb_eqv _, fun _ he => by cases he⟩, ⟨stb_eqv _, fun _ he => by cases he⟩, trivial⟩ ⟨?_, ?_, ?_, trivial⟩ ?_
  · intro wd hxE
    replace hb_g9 := hb_g9.ext hxE
    replace hb_g10 := hb_g10.ext hxE
    replace hE := hE.tr hxE
    replace ho23 := Own.ext ho23 hxE
    replace hp23 := Own.ext hp23 hxE
    replace hFL23 := FL.ext hFL23 hxE
    have hz_hxE := hxE.size
    show OpG _ _ _ _ _ _
    exact og_plain rfl (ox_val (ov_loadAt oc60 rfl hb_g9 rfl))
  · intro wd hxE
    replace hb_g9 := hb_g9.ext hxE
    replace hb_g10 := hb_g10.ext hxE
    replace hE := hE.tr hxE
    replace ho23 := Own.ext ho23 hxE
    replace hp23 := Own.ext hp23 hxE
    replace hFL23 := FL.ext hFL23 hxE
    have hz_hxE := hxE.size
    show OpG _ _ _ _ _ _
    exact og_plain rfl (ox_val (ov_loadAt oc61 rfl hb_g10 rfl))
  · intro wd hxE
    replace hb_g9 := hb_g9.ext hxE
    replace hb_g10 := hb_g10.ext hxE
    replace hE := hE.tr hxE
    replace ho23 := Own.ext ho23 hxE
    replace hp23 := Own.ext hp23 hxE
    replace hFL23 := FL.ext hFL23 hxE
    have hz_hxE := hxE.size
    rintro _ rfl
    show OpG _ _ _ _ _ _
    exact og_plain rfl (ox_val (ov_assign rfl))
  · intro wf8 hf8
    replace hb_g9 := hb_g9.ext hf8
    replace hb_g10 := hb_g10.ext hf8
    replace hE := hE.tr hf8
    replace ho23 := Own.ext ho23 hf8
    replace hp23 := Own.ext hp23 hf8
    replace hFL23 := FL.ext hFL23 hf8
    have hz_hf8 := hf8.size
    rintro _ rfl
    rintro _ rfl
    rintro _ rfl
    show WL _ _ _ [_, _] _ _ _
    refine wl_val (ov_assign rfl) rfl rfl rfl ?_
    refine wl_val (ov_assign rfl) rfl rfl rfl ?_
    refine q_nil ?_
    refine k_then ?_
    refine q_ret ?_
    refine e_ret3 rfl rfl rfl rfl ?_
    exact ⟨A23, c23, B23, d23, ys23, rfl, Own.mono ho23 (by omega), Own.mono hp23 (by omega), hFL23.mono (by omega), hv23, hE⟩

theorem dAll_bad (w : World) (A : Option Addr) (c : Nat) (q : List UInt8) (m : Int) (h : m < 0 ∨ 2097152 < m) :
    Fn Try.prog 32 #[(.slice A q.length c), (.int .i64 m)] w (fun v w' => v = .tuple #[.slice none 0 0, .slice none 0 0, .int .i64 2] ∧ Ext w w')  := by
  have hE := ext_refl w
  refine fn_enter (args := [(.slice A q.length c), (.int .i64 m)]) Try.func32 rfl rfl rfl ?_
  show WC _ _ _ _ [(0, (.slice A q.length c)), (1, (.int .i64 m))] _
  refine wc_seq ?_
  refine wc_regionL ?_
  refine wl_val (ov_assign rfl) rfl rfl rfl ?_
  refine wl_val (ov_assign rfl) rfl rfl rfl ?_
  refine wl_val (ov_assign rfl) rfl rfl rfl ?_
  refine q_nil ?_
  refine k_then ?_
  refine wc_seq ?_
  refine wc_regionL ?_
  refine wl_val (ov_move rfl) rfl rfl rfl ?_
  refine wl_step (or_call0 cl35 rfl rfl (dnew_bad _ m (by omega))) rfl rfl rfl ?_
  rintro v w1 ⟨rfl, he13⟩
  replace hE := hE.tr he13
  have hz_he13 := he13.size
  refine wl_val (ov_move rfl) rfl rfl rfl ?_
  refine wl_val (ov_extract rfl rfl) rfl rfl rfl ?_
  refine wl_val (ov_extract rfl rfl) rfl rfl rfl ?_
  refine wl_val (ov_assign rfl) rfl rfl rfl ?_
  refine wl_val (ov_assign rfl) rfl rfl rfl ?_
  refine q_nil ?_
  refine k_then ?_
  refine wc_seq ?_
  refine wc_seq ?_
  refine wc_regionL ?_
  refine wl_val (ov_move rfl) rfl rfl rfl ?_
  refine wl_val (ov_neq rfl rfl) rfl rfl rfl ?_
  refine q_nil ?_
  refine k_then ?_
  refine wc_cond_t rfl ?_
  refine wc_seq ?_
  refine wc_regionL ?_
  refine wl_val (ov_move rfl) rfl rfl rfl ?_
  refine wl_val (ov_assign rfl) rfl rfl rfl ?_
  refine wl_val (ov_assign rfl) rfl rfl rfl ?_
  refine wl_val (ov_assign rfl) rfl rfl rfl ?_
  refine q_nil ?_
  refine k_then ?_
  refine q_ret ?_
  refine k_thenR ?_
  refine e_ret3 rfl rfl rfl rfl ?_
  exact ⟨rfl, hE⟩

theorem lnext_ok (w : World) (lo g : Nat) (D : Option Nat) (m : Nat) (cl : Bool) (l : List UInt8) (hdec : Dec w lo g D m cl l) (hl40 : l.length ≤ 1099511627776) (lo2 hi2 : Nat) (y : UInt8) (B : Option Addr) (c2 : Nat) (q : List UInt8) (hr2 : RdB w lo2 hi2 B c2 q) (hhq : hi2 ≤ w.heap.size) (hgq : g < lo2 ∨ hi2 ≤ g) (hDq : ∀ x, D = some x → x < lo2 ∨ hi2 ≤ x) (no : Int) (h1 : (dnext m cl l).2.2.1 = (y, q)) (h2 : ((dnext m cl l).2.2.2 : Int) = no) :
    Fn Try.prog 40 #[(.pointer (some ⟨g, 0, none⟩)), (.agg #[(.int .u8 (↑y.toNat : Int)), (.slice B q.length c2)]), (.int .i64 no)] w (fun v w' => v = .bool true ∧ Dec w' lo g D m (dnext m cl l).1 (dnext m cl l).2.1 ∧ Ch g D w w')  := by
  have hDs : ∀ x, D = some x → lo ≤ x ∧ x < w.heap.size := fun x e => hdec.lt.2 x e
  have hzb := hdec.lt.1
  have hcp := hdec.cap
  have hC := Ch.refl g D w
  replace hDs : ∀ x, D = some x → (x < lo2 ∨ hi2 ≤ x) ∧ lo ≤ x ∧ x < w.heap.size := fun x e => ⟨hDq x e, hDs x e⟩
  refine fn_enter (args := [(.pointer (some ⟨g, 0, none⟩)), (.agg #[(.int .u8 (↑y.toNat : Int)), (.slice B q.length c2)]), (.int .i64 no)]) Try.func40 rfl rfl rfl ?_
  show WC _ _ _ _ [(0, (.pointer (some ⟨g, 0, none⟩))), (1, (.agg #[(.int .u8 (↑y.toNat : Int)), (.slice B q.length c2)])), (2, (.int .i64 no))] _
  refine wc_seq ?_
  refine wc_regionL ?_
  refine wl_step (or_box (cs := [(.int .u8 (↑y.toNat : Int)), (.slice B q.length c2)]) rfl rfl) rfl rfl rfl ?_
  rintro v w1 ⟨g4, rfl, hb_g4, he4, hl4, hu4⟩
  replace hdec := hdec.ext he4
  replace hr2 := hr2.ext he4
  replace hC := hC.ext he4
  have hz_he4 := he4.size
  refine wl_val (ov_assign rfl) rfl rfl rfl ?_
  refine q_nil ?_
  refine k_then ?_
  refine wc_seq ?_
  refine wc_regionL ?_
  refine wl_val (ov_move rfl) rfl rfl rfl ?_
  have hr2k := hr2
  refine wl_step (or_call0 cl37 rfl rfl (dnext_ok _ lo g D m cl l hdec (by first | omega | (simp; done)))) rfl rfl rfl ?_
  rintro v w2 ⟨A11, c11, rfl, ho11, hb11, hC11⟩
  have hDa11 : ∀ x, D = some x → ((x < lo2 ∨ hi2 ≤ x) ∧ lo ≤ x ∧ x < w.heap.size) ∧ x < w1.heap.size := fun x e => ⟨hDs x e, (hdec.lt.2 x e).2⟩
  have hz_hC11 := hC11.size
  replace hr2 := hC11.rd hr2 (by omega) (fun x e => by have := hDa11 x e; omega)
  replace hC := hC.tr hC11 (fun x e => by first | exact .inl e | (right; have := hDa11 x e; omega))
  replace hb_g4 := hC11.bk hb_g4 (by omega) (fun e2 => by have := hDa11 _ e2; omega)
  have hzb11 := hb11.lt.1
  have hcp11 := hb11.cap
  have hq_ho11 := fun g e => Own.lt ho11 (g := g) e
  refine wl_val (ov_move rfl) rfl rfl rfl ?_
  refine wl_val (ov_extract rfl rfl) rfl rfl rfl ?_
  refine wl_val (ov_extract rfl rfl) rfl rfl rfl ?_
  refine wl_step (or_alloc (cs := [(.int .u8 0), (.slice none 0 0)]) ze72 rfl) rfl rfl rfl ?_
  rintro v w3 ⟨g7, rfl, hb_g7, he7, hl7, hu7⟩
  replace hr2 := hr2.ext he7
  replace hC := hC.ext he7
  replace hb_g4 := hb_g4.ext he7
  replace hb11 := hb11.ext he7
  replace ho11 := Own.ext ho11 he7
  have hz_he7 := he7.size
  refine wl_step0 (or_storeBlk (vs := [(.int .u8 (↑(dnext m cl l).2.2.1.1.toNat : Int)), (.slice A11 (dnext m cl l).2.2.1.2.length c11)]) sz72 rfl rfl (by simp [Value.oneCell']) hb_g7 rfl) rfl rfl ?_
  rintro _ w4 ⟨hN4, hg4⟩
  have hz_hg4 := hg4.size
  replace hr2 := hr2.gr hg4 (fun _ e => by cases e; omega)
  replace hC := hC.gr2 hg4 (fun x e => by cases e; first | exact .inl rfl | (right; right; omega))
  replace hb_g4 := hb_g4.gr hg4 (by intro e; cases e; omega)
  replace hb11 := hb11.gr hg4 (fun x e => by cases e; omega) (fun x e e2 => by cases e; have := hDs _ e2; omega)
  replace ho11 := Own.gr ho11 hg4 (by first | exact .inl rfl | (right; intro e; first | (have := hq_ho11 _ e; omega) | (have := Own.lt ho11 e; omega) | exact own_blk_ne ho11 hb_g7 (by decide) e))
  replace hb_g7 := hN4
  refine wl_val (ov_assign rfl) rfl rfl rfl ?_
  refine q_nil ?_
  refine k_then ?_
  refine wc_seq ?_
  refine wc_regionL ?_
  refine wl_val (ov_loadBlk (cs := [(.int .u8 (↑(dnext m cl l).2.2.1.1.toNat : Int)), (.slice A11 (dnext m cl l).2.2.1.2.length c11)]) ag72_2 rfl hb_g7) rfl rfl rfl ?_
  refine wl_val (ov_loadBlk (cs := [(.int .u8 (↑y.toNat : Int)), (.slice B q.length c2)]) ag72_2 rfl hb_g4) rfl rfl rfl ?_
  refine wl_step (or_call0 cl46 rfl rfl (rfequal_any _ _ _ _ _ ((dnext m cl l).2.2.1.1) _ _ (dnext m cl l).2.2.1.2 (y) _ _ q (OwnB.rd ho11) hr2)) rfl rfl rfl ?_
  rintro v w5 ⟨rfl, he16⟩
  replace hr2 := hr2.ext he16
  replace hC := hC.ext he16
  replace hb_g4 := hb_g4.ext he16
  replace hb11 := hb11.ext he16
  replace ho11 := Own.ext ho11 he16
  replace hb_g7 := hb_g7.ext he16
  have hz_he16 := he16.size
  refine wl_spell (d := 16) rfl (bt (h1)) ?_
  refine wl_val (ov_move rfl) rfl rfl rfl ?_
  refine wl_gval (ov_move rfl) rfl rfl rfl rfl rfl ?_
  refine wl_gval (ov_move rfl) rfl rfl rfl rfl rfl ?_
  refine wl_gval (ov_eql rfl rfl) rfl rfl rfl rfl rfl ?_
  refine wl_spell (d := 20) rfl (bt (h2)) ?_
  refine wl_val (ov_pick_t rfl rfl) rfl rfl rfl ?_
  refine wl_val (ov_assign rfl) rfl rfl rfl ?_
  refine q_nil ?_
  refine k_then ?_
  refine q_ret ?_
  refine e_ret rfl rfl ?_
  exact ⟨rfl, hb11, hC⟩

theorem lnext_zero (w : World) (g : Nat) (hb_g : Blk w g 91 [.bool false, .bool false, .int .i64 0, .slice none 0 0]) :
    Fn Try.prog 40 #[(.pointer (some ⟨g, 0, none⟩)), (.agg #[(.int .u8 0), (.slice none 0 0)]), (.int .i64 1)] w (fun v w' => v = .bool true ∧ Ext w w')  := by
  have hE := ext_refl w
  have hgl := hb_g.lt
  refine fn_enter (args := [(.pointer (some ⟨g, 0, none⟩)), (.agg #[(.int .u8 0), (.slice none 0 0)]), (.int .i64 1)]) Try.func40 rfl rfl rfl ?_
  show WC _ _ _ _ [(0, (.pointer (some ⟨g, 0, none⟩))), (1, (.agg #[(.int .u8 0), (.slice none 0 0)])), (2, (.int .i64 1))] _
  refine wc_seq ?_
  refine wc_regionL ?_
  refine wl_step (or_box (cs := [(.int .u8 0), (.slice none 0 0)]) rfl rfl) rfl rfl rfl ?_
  rintro v w1 ⟨g4, rfl, hb_g4, he4, hl4, hu4⟩
  replace hb_g := hb_g.ext he4
  replace hE := hE.tr he4
  have hz_he4 := he4.size
  refine wl_val (ov_assign rfl) rfl rfl rfl ?_
  refine q_nil ?_
  refine k_then ?_
  refine wc_seq ?_
  refine wc_regionL ?_
  refine wl_val (ov_move rfl) rfl rfl rfl ?_
  refine wl_step (or_call0 cl37 rfl rfl (dnext_zero _ _ hb_g)) rfl rfl rfl ?_
  rintro v w2 ⟨rfl, he11⟩
  replace hb_g := hb_g.ext he11
  replace hE := hE.tr he11
  replace hb_g4 := hb_g4.ext he11
  have hz_he11 := he11.size
  refine wl_val (ov_move rfl) rfl rfl rfl ?_
  refine wl_val (ov_extract rfl rfl) rfl rfl rfl ?_
  refine wl_val (ov_extract rfl rfl) rfl rfl rfl ?_
  refine wl_step (or_alloc (cs := [(.int .u8 0), (.slice none 0 0)]) ze72 rfl) rfl rfl rfl ?_
  rintro v w3 ⟨g7, rfl, hb_g7, he7, hl7, hu7⟩
  replace hb_g := hb_g.ext he7
  replace hE := hE.tr he7
  replace hb_g4 := hb_g4.ext he7
  have hz_he7 := he7.size
  refine wl_step0 (or_storeBlk (vs := [(.int .u8 0), (.slice none 0 0)]) sz72 rfl rfl (by simp [Value.oneCell']) hb_g7 rfl) rfl rfl ?_
  rintro _ w4 ⟨hN4, hg4⟩
  have hz_hg4 := hg4.size
  replace hb_g := hb_g.gr hg4 (by intro e; cases e; omega)
  replace hE := hE.gr hg4 (fun _ e => by cases e; omega)
  replace hb_g4 := hb_g4.gr hg4 (by intro e; cases e; omega)
  replace hb_g7 := hN4
  refine wl_val (ov_assign rfl) rfl rfl rfl ?_
  refine q_nil ?_
  refine k_then ?_
  refine wc_seq ?_
  refine wc_regionL ?_
  refine wl_val (ov_loadBlk (cs := [(.int .u8 0), (.slice none 0 0)]) ag72_2 rfl hb_g7) rfl rfl rfl ?_
  refine wl_val (ov_loadBlk (cs := [(.int .u8 0), (.slice none 0 0)]) ag72_2 rfl hb_g4) rfl rfl rfl ?_
  refine wl_step (or_call0 cl46 rfl rfl (rfequal_any _ _ _ _ _ (0) _ _ [] (0) _ _ [] (RdB.nil _ 0 0) (RdB.nil _ 0 0))) rfl rfl rfl ?_
  rintro v w5 ⟨rfl, he16⟩
  replace hb_g := hb_g.ext he16
  replace hE := hE.tr he16
  replace hb_g4 := hb_g4.ext he16
  replace hb_g7 := hb_g7.ext he16
  have hz_he16 := he16.size
  refine wl_spell (d := 16) rfl (bt (rfl)) ?_
  refine wl_val (ov_move rfl) rfl rfl rfl ?_
  refine wl_gval (ov_move rfl) rfl rfl rfl rfl rfl ?_
  refine wl_gval (ov_move rfl) rfl rfl rfl rfl rfl ?_
  refine wl_gval (ov_eql rfl rfl) rfl rfl rfl rfl rfl ?_
  refine wl_val (ov_pick_t rfl rfl) rfl rfl rfl ?_
  refine wl_val (ov_assign rfl) rfl rfl rfl ?_
  refine q_nil ?_
  refine k_then ?_
  refine q_ret ?_
  refine e_ret rfl rfl ?_
  exact ⟨rfl, hE⟩

theorem lnext_nil (w : World) :
    Fn Try.prog 40 #[(.pointer none), (.agg #[(.int .u8 0), (.slice none 0 0)]), (.int .i64 1)] w (fun v w' => v = .bool true ∧ Ext w w')  := by
  have hE := ext_refl w
  refine fn_enter (args := [(.pointer none), (.agg #[(.int .u8 0), (.slice none 0 0)]), (.int .i64 1)]) Try.func40 rfl rfl rfl ?_
  show WC _ _ _ _ [(0, (.pointer none)), (1, (.agg #[(.int .u8 0), (.slice none 0 0)])), (2, (.int .i64 1))] _
  refine wc_seq ?_
  refine wc_regionL ?_
  refine wl_step (or_box (cs := [(.int .u8 0), (.slice none 0 0)]) rfl rfl) rfl rfl rfl ?_
  rintro v w1 ⟨g4, rfl, hb_g4, he4, hl4, hu4⟩
  replace hE := hE.tr he4
  have hz_he4 := he4.size
  refine wl_val (ov_assign rfl) rfl rfl rfl ?_
  refine q_nil ?_
  refine k_then ?_
  refine wc_seq ?_
  refine wc_regionL ?_
  refine wl_val (ov_move rfl) rfl rfl rfl ?_
  refine wl_step (or_call0 cl37 rfl rfl (dnext_nil _)) rfl rfl rfl ?_
  rintro v w2 ⟨rfl, he11⟩
  replace hE := hE.tr he11
  replace hb_g4 := hb_g4.ext he11
  have hz_he11 := he11.size
  refine wl_val (ov_move rfl) rfl rfl rfl ?_
  refine wl_val (ov_extract rfl rfl) rfl rfl rfl ?_
  refine wl_val (ov_extract rfl rfl) rfl rfl rfl ?_
  refine wl_step (or_alloc (cs := [(.int .u8 0), (.slice none 0 0)]) ze72 rfl) rfl rfl rfl ?_
  rintro v w3 ⟨g7, rfl, hb_g7, he7, hl7, hu7⟩
  replace hE := hE.tr he7
  replace hb_g4 := hb_g4.ext he7
  have hz_he7 := he7.size
  refine wl_step0 (or_storeBlk (vs := [(.int .u8 0), (.slice none 0 0)]) sz72 rfl rfl (by simp [Value.oneCell']) hb_g7 rfl) rfl rfl ?_
  rintro _ w4 ⟨hN4, hg4⟩
  have hz_hg4 := hg4.size
  replace hE := hE.gr hg4 (fun _ e => by cases e; omega)
  replace hb_g4 := hb_g4.gr hg4 (by intro e; cases e; omega)
  replace hb_g7 := hN4
  refine wl_val (ov_assign rfl) rfl rfl rfl ?_
  refine q_nil ?_
  refine k_then ?_
  refine wc_seq ?_
  refine wc_regionL ?_
  refine wl_val (ov_loadBlk (cs := [(.int .u8 0), (.slice none 0 0)]) ag72_2 rfl hb_g7) rfl rfl rfl ?_
  refine wl_val (ov_loadBlk (cs := [(.int .u8 0), (.slice none 0 0)]) ag72_2 rfl hb_g4) rfl rfl rfl ?_
  refine wl_step (or_call0 cl46 rfl rfl (rfequal_any _ _ _ _ _ (0) _ _ [] (0) _ _ [] (RdB.nil _ 0 0) (RdB.nil _ 0 0))) rfl rfl rfl ?_
  rintro v w5 ⟨rfl, he16⟩
  replace hE := hE.tr he16
  replace hb_g4 := hb_g4.ext he16
  replace hb_g7 := hb_g7.ext he16
  have hz_he16 := he16.size
  refine wl_spell (d := 16) rfl (bt (rfl)) ?_
  refine wl_val (ov_move rfl) rfl rfl rfl ?_
  refine wl_gval (ov_move rfl) rfl rfl rfl rfl rfl ?_
  refine wl_gval (ov_move rfl) rfl rfl rfl rfl rfl ?_
  refine wl_gval (ov_eql rfl rfl) rfl rfl rfl rfl rfl ?_
  refine wl_val (ov_pick_t rfl rfl) rfl rfl rfl ?_
  refine wl_val (ov_assign rfl) rfl rfl rfl ?_
  refine q_nil ?_
  refine k_then ?_
  refine q_ret ?_
  refine e_ret rfl rfl ?_
  exact ⟨rfl, hE⟩

theorem lall_ok (w : World) (lo2 hi2 : Nat) (A : Option Addr) (c : Nat) (q : List UInt8) (hr : RdB w lo2 hi2 A c q) (m : Nat) (hm : m ≤ 2097152) (hlq : q.length ≤ 1099511627776) (lox hix : Nat) (C : Option Addr) (cx : Nat) (loe hie : Nat) (E : Option Addr) (ce : Nat) (zs : List Got) (hrz : RdR w lox hix 2 gotc C cx zs) (hez : RdR w loe hie 1 (fun y : Got => [gote y]) E ce zs) (hPz : ∀ z ∈ zs, RdB w 0 w.heap.size z.1.2.1 z.1.2.2.1 z.1.2.2.2) (hzv : zs.map gotv = dall m false q) :
    Fn Try.prog 34 #[(.slice A q.length c), (.int .i64 (↑m : Int)), (.slice C zs.length cx), (.slice E zs.length ce)] w (fun v w' => v = .bool true ∧ Ext w w')  := by
  replace hr := hr.top
  replace hrz := hrz.top
  replace hez := hez.top
  have hE := ext_refl w
  refine fn_enter (args := [(.slice A q.length c), (.int .i64 (↑m : Int)), (.slice C zs.length cx), (.slice E zs.length ce)]) Try.func34 rfl rfl rfl ?_
  show WC _ _ _ _ [(0, (.slice A q.length c)), (1, (.int .i64 (↑m : Int))), (2, (.slice C zs.length cx)), (3, (.slice E zs.length ce))] _
  refine wc_seq ?_
  refine wc_regionL ?_
  refine wl_val (ov_assign rfl) rfl rfl rfl ?_
  refine q_nil ?_
  refine k_then ?_
  refine wc_seq ?_
  refine wc_regionL ?_
  refine wl_val (ov_move rfl) rfl rfl rfl ?_
  refine wl_val (ov_move rfl) rfl rfl rfl ?_
  refine wl_step (or_call0 cl32 rfl rfl (dAll_ok _ _ _ _ _ q hr (m) (by omega) (by omega))) rfl rfl rfl ?_
  rintro v w1 ⟨A16, c16, B16, d16, ys16, rfl, ho16, hp16, hFL16, hv16, he16⟩
  replace hr := hr.ext he16
  replace hrz := hrz.ext he16
  replace hez := hez.ext he16
  replace hE := hE.tr he16
  have hz_he16 := he16.size
  have hry : RdR _ _ _ 2 gotc A16 c16 ys16 := Own.rd ho16
  have hey := Rd.gots (Own.rd hp16)
  have hlen : ys16.length = zs.length := by have := congrArg List.length (hv16.trans hzv.symm); simpa using this
  refine wl_val (ov_move rfl) rfl rfl rfl ?_
  refine wl_val (ov_extract rfl rfl) rfl rfl rfl ?_
  refine wl_val (ov_extract rfl rfl) rfl rfl rfl ?_
  refine wl_val (ov_extract rfl rfl) rfl rfl rfl ?_
  refine wl_val (ov_assign rfl) rfl rfl rfl ?_
  refine wl_val (ov_assign rfl) rfl rfl rfl ?_
  refine wl_val (ov_assign rfl) rfl rfl rfl ?_
  refine q_nil ?_
  refine k_then ?_
  refine wc_seq ?_
  refine wc_seq ?_
  refine wc_regionL ?_
  refine wl_val (ov_move rfl) rfl rfl rfl ?_
  refine wl_val (ov_neq rfl rfl) rfl rfl rfl ?_
  refine wl_val (ov_move rfl) rfl rfl rfl ?_
  refine wl_gval (ov_move rfl) rfl rfl rfl rfl rfl ?_
  refine wl_gval (ov_len Try.underlying60 rfl) rfl rfl rfl rfl rfl ?_
  refine wl_gval (ov_move rfl) rfl rfl rfl rfl rfl ?_
  refine wl_gval (ov_len Try.underlying60 rfl) rfl rfl rfl rfl rfl ?_
  refine wl_gval (ov_neq rfl rfl) rfl rfl rfl rfl rfl ?_
  refine wl_spell (d := 27) rfl (bf (by omega)) ?_
  refine wl_val (ov_pick_f rfl rfl) rfl rfl rfl ?_
  refine wl_val (ov_move rfl) rfl rfl rfl ?_
  refine wl_gval (ov_move rfl) rfl rfl rfl rfl rfl ?_
  refine wl_gval (ov_len Try.underlying61 rfl) rfl rfl rfl rfl rfl ?_
  refine wl_gval (ov_move rfl) rfl rfl rfl rfl rfl ?_
  refine wl_gval (ov_len Try.underlying64 rfl) rfl rfl rfl rfl rfl ?_
  refine wl_gval (ov_neq rfl rfl) rfl rfl rfl rfl rfl ?_
  refine wl_spell (d := 34) rfl (bf (by omega)) ?_
  refine wl_val (ov_pick_f rfl rfl) rfl rfl rfl ?_
  refine q_nil ?_
  refine k_then ?_
  refine wc_cond_f rfl ?_
  refine q_skip ?_
  refine k_then ?_
  refine wc_seq ?_
  refine wc_seq ?_
  refine wc_regionL ?_
  refine wl_val (ov_move rfl) rfl rfl rfl ?_
  refine wl_val (ov_len Try.underlying60 rfl) rfl rfl rfl ?_
  refine wl_val (ov_move rfl) rfl rfl rfl ?_
  refine q_nil ?_
  refine k_then ?_
  refine wc_block ?_
  obtain ⟨lob, hlob⟩ : ∃ n, n = w.heap.size := ⟨_, rfl⟩
  obtain ⟨hiq, hhiq⟩ : ∃ n, n = w1.heap.size := ⟨_, rfl⟩
  refine wc_loop (σ := Nat) (fun s => ys16.length - s) (fun s => [(2, .slice C zs.length cx), (3, .slice E zs.length ce), (9, .slice A16 ys16.length c16), (10, .slice B16 ys16.length d16), (37, .int .i64 (ys16.length : Int)), (38, .int .i64 (s : Int))]) (fun s w' => s ≤ ys16.length ∧ RdR w' w.heap.size hiq 2 gotc A16 c16 ys16 ∧ RdR w' w.heap.size hiq 1 (fun y : Got => [gote y]) B16 d16 ys16 ∧ RdR w' lox w.heap.size 2 gotc C cx zs ∧ RdR w' loe w.heap.size 1 (fun y : Got => [gote y]) E ce zs ∧ FL w' w.heap.size ys16 ∧ Ext w w') (0) (⟨Nat.zero_le _, by rw [hhiq]; exact hry.top, by rw [hhiq]; exact hey.top, hrz, hez, hFL16, hE⟩) (⟨rfl, rfl, rfl, rfl, rfl, rfl, trivial⟩) ?_
  rintro k wq ⟨hk0, hry, hey, hrz, hez, hFLq, hE⟩
  show WC _ _ _ _ [(2, (.slice C zs.length cx)), (3, (.slice E zs.length ce)), (9, (.slice A16 ys16.length c16)), (10, (.slice B16 ys16.length d16)), (37, (.int .i64 (↑ys16.length : Int))), (38, (.int .i64 (↑k : Int)))] _
  have hz_E := hE.size
  have hcy := hry.1
  have hcy2 := hry.2.1
  simp only [maxLen] at hcy2
  refine wc_seq ?_
  refine wc_regionL ?_
  refine wl_val (ov_lss rfl rfl) rfl rfl rfl ?_
  refine q_nil ?_
  refine k_then ?_
  refine wc_seq ?_
  refine wc_cond_d rfl (fun hc2 => ?_) (fun hc2 => ?_)
  · obtain ⟨⟨⟨xy, Ay, cy, py⟩, ey⟩, hky⟩ : ∃ a, ys16[k]? = some a := ⟨_, List.getElem?_eq_getElem (by omega)⟩
    obtain ⟨⟨⟨xz, Az, cz, pz⟩, ez⟩, hkz⟩ : ∃ a, zs[k]? = some a := ⟨_, List.getElem?_eq_getElem (by omega)⟩
    have hyz := gots_get hv16 hzv hky hkz
    simp only [gotv, Prod.mk.injEq] at hyz
    have hoy := hFLq _ (List.mem_of_getElem? hky)
    have hrpz : RdB _ 0 w.heap.size Az cz pz := (hPz _ (List.mem_of_getElem? hkz)).ext hE
    have hq_hoy := fun g e => Own.lt hoy (g := g) e
    refine q_skip ?_
    refine k_then ?_
    refine wc_seq ?_
    refine wc_block ?_
    refine wc_seq ?_
    refine wc_regionL ?_
    refine wl_val (ov_move rfl) rfl rfl rfl ?_
    refine wl_val (ov_assign rfl) rfl rfl rfl ?_
    refine q_nil ?_
    refine k_then ?_
    refine wc_seq ?_
    refine wc_draw mixed 19 [(41, eqv (.slice A16 ys16.length c16)), (42, eqv (.int .i64 (↑k : Int))), (43, isCells [(.int .u8 (↑xy.toNat : Int)), (.slice Ay py.length cy)]), (44, eqv (.agg #[(.int .u8 (↑xy.toNat : Int)), (.slice Ay py.length cy)])), (45, eqv (.slice C zs.length cx)), (46, eqv (.int .i64 (↑k : Int))), (47, isCells [(.int .u8 (↑xz.toNat : Int)), (.slice Az pz.length cz)]), (48, eqv (.agg #[(.int .u8 (↑xz.toNat : Int)), (.slice Az pz.length cz)])), (49, eqv (.bool true)), (50, eqv (.bool false)), (51, eqv (.bool false)), (52, eqv (.slice B16 ys16.length d16)), (53, eqv (.int .i64 (↑k : Int))), (54, isCells [(.int .i64 (↑ey : Int))]), (55, eqv (.int .i64 (↑ey : Int))), (56, eqv (.slice E zs.length ce)), (57, eqv (.int .i64 (↑k : Int))), (58, isCells [(.int .i64 (↑ez : Int))]), (59, eqv (.int .i64 (↑ez : Int)))] [[], [], [0, 1], [2], [], [], [4, 5], [6], [3, 7], [8], [9], [10], [10], [10, 11, 12], [10, 13], [10], [10], [10, 15, 16], [10, 17]] _ [] [] (fun _ _ h => h) trivial (by kernel_rfl) rfl ⟨⟨stb_eqv _, fun _ he => by cases he⟩, ⟨stb_eqv _, fun _ he => by cases he⟩, ⟨stb_isCells _, fun _ he => by cases he⟩, ⟨stb_eqv _, fun _ he => by cases he⟩, ⟨stb_eqv _, fun _ he => by cases he⟩, ⟨stb_eqv _, fun _ he => by cases he⟩, ⟨stb_isCells _, fun _ he => by cases he⟩, ⟨stb_eqv _, fun _ he => by cases he⟩, ⟨stb_eqv _, fun _ he => by cases he⟩, ⟨stb_eqv _, fun _ he => by cases he⟩, ⟨stb_eqv _, fun _ he => by cases he⟩, ⟨stb_eqv _, fun _ he => by cases he⟩, ⟨stb_eqv _, fun _ he => by cases he⟩, ⟨stb_isCells _, fun _ he => by cases he⟩, ⟨stb_eqv _, fun _ he => by cases he⟩, ⟨stb_eqv _, fun _ he => by cases he⟩, ⟨stb_eqv _, fun _ he => by cases he⟩, ⟨stb_isCells _, fun _ he => by cases he⟩, ⟨stb_eqv _, fun _ he => by cases he⟩, trivial⟩ ⟨?_, ?_, ?_, ?_, ?_, ?_, ?_, ?_, ?_, ?_, ?_, ?_, ?_, ?_, ?_, ?_, ?_, ?_, ?_, trivial⟩ ?_
    · intro wd hxE
      replace hry := hry.ext hxE
      replace hey := hey.ext hxE
      replace hrz := hrz.ext hxE
      replace hez := hez.ext hxE
      replace hE := hE.tr hxE
      replace hoy := Own.ext hoy hxE
      replace hrpz := hrpz.ext hxE
      replace hFLq := FL.ext hFLq hxE
      have hz_hxE := hxE.size
      show OpG _ _ _ _ _ _
      exact og_plain rfl (ox_val (ov_move rfl))
    · intro wd hxE
      replace hry := hry.ext hxE
      replace hey := hey.ext hxE
      replace hrz := hrz.ext hxE
      replace hez := hez.ext hxE
      replace hE := hE.tr hxE
      replace hoy := Own.ext hoy hxE
      replace hrpz := hrpz.ext hxE
      replace hFLq := FL.ext hFLq hxE
      have hz_hxE := hxE.size
      show OpG _ _ _ _ _ _
      exact og_plain rfl (ox_val (ov_move rfl))
    · intro wd hxE
      replace hry := hry.ext hxE
      replace hey := hey.ext hxE
      replace hrz := hrz.ext hxE
      replace hez := hez.ext hxE
      replace hE := hE.tr hxE
      replace hoy := Own.ext hoy hxE
      replace hrpz := hrpz.ext hxE
      replace hFLq := FL.ext hFLq hxE
      have hz_hxE := hxE.size
      rintro _ rfl
      rintro _ rfl
      show OpG _ _ _ _ _ _
      refine og_plain rfl (OpRun.mono (or_rindex (m := (k)) sl60 rfl rfl hry (fun _ _ => rfl) hky) ?_)
      rintro v _ ⟨rfl, p43, rfl, hp43, hpl43, hph43⟩
      exact ⟨⟨p43, rfl, hp43⟩, ext_refl _⟩
    · intro wd hxE
      replace hry := hry.ext hxE
      replace hey := hey.ext hxE
      replace hrz := hrz.ext hxE
      replace hez := hez.ext hxE
      replace hE := hE.tr hxE
      replace hoy := Own.ext hoy hxE
      replace hrpz := hrpz.ext hxE
      replace hFLq := FL.ext hFLq hxE
      have hz_hxE := hxE.size
      rintro _ ⟨p43, rfl, hp43⟩
      show OpG _ _ _ _ _ _
      exact og_plain rfl (ox_val (ov_loadAgg (cs := [(.int .u8 (↑xy.toNat : Int)), (.slice Ay py.length cy)]) ag72_2 rfl rfl hp43))
    · intro wd hxE
      replace hry := hry.ext hxE
      replace hey := hey.ext hxE
      replace hrz := hrz.ext hxE
      replace hez := hez.ext hxE
      replace hE := hE.tr hxE
      replace hoy := Own.ext hoy hxE
      replace hrpz := hrpz.ext hxE
      replace hFLq := FL.ext hFLq hxE
      have hz_hxE := hxE.size
      show OpG _ _ _ _ _ _
      exact og_plain rfl (ox_val (ov_move rfl))
    · intro wd hxE
      replace hry := hry.ext hxE
      replace hey := hey.ext hxE
      replace hrz := hrz.ext hxE
      replace hez := hez.ext hxE
      replace hE := hE.tr hxE
      replace hoy := Own.ext hoy hxE
      replace hrpz := hrpz.ext hxE
      replace hFLq := FL.ext hFLq hxE
      have hz_hxE := hxE.size
      show OpG _ _ _ _ _ _
      exact og_plain rfl (ox_val (ov_move rfl))
    · intro wd hxE
      replace hry := hry.ext hxE
      replace hey := hey.ext hxE
      replace hrz := hrz.ext hxE
      replace hez := hez.ext hxE
      replace hE := hE.tr hxE
      replace hoy := Own.ext hoy hxE
      replace hrpz := hrpz.ext hxE
      replace hFLq := FL.ext hFLq hxE
      have hz_hxE := hxE.size
      rintro _ rfl
      rintro _ rfl
      show OpG _ _ _ _ _ _
      refine og_plain rfl (OpRun.mono (or_rindex (m := (k)) sl60 rfl rfl hrz (fun _ _ => rfl) hkz) ?_)
      rintro v _ ⟨rfl, p47, rfl, hp47, hpl47, hph47⟩
      exact ⟨⟨p47, rfl, hp47⟩, ext_refl _⟩
    · intro wd hxE
      replace hry := hry.ext hxE
      replace hey := hey.ext hxE
      replace hrz := hrz.ext hxE
      replace hez := hez.ext hxE
      replace hE := hE.tr hxE
      replace hoy := Own.ext hoy hxE
      replace hrpz := hrpz.ext hxE
      replace hFLq := FL.ext hFLq hxE
      have hz_hxE := hxE.size
      rintro _ ⟨p47, rfl, hp47⟩
      show OpG _ _ _ _ _ _
      exact og_plain rfl (ox_val (ov_loadAgg (cs := [(.int .u8 (↑xz.toNat : Int)), (.slice Az pz.length cz)]) ag72_2 rfl rfl hp47))
    · intro wd hxE
      replace hry := hry.ext hxE
      replace hey := hey.ext hxE
      replace hrz := hrz.ext hxE
      replace hez := hez.ext hxE
      replace hE := hE.tr hxE
      replace hoy := Own.ext hoy hxE
      replace hrpz := hrpz.ext hxE
      replace hFLq := FL.ext hFLq hxE
      have hz_hxE := hxE.size
      rintro _ rfl
      rintro _ rfl
      show OpG _ _ _ _ _ _
      refine og_plain rfl (OpRun.mono (or_call0 cl46 rfl rfl (rfequal_any _ _ _ _ _ (xy) _ _ py (xz) _ _ pz (OwnB.rd hoy) hrpz)) ?_)
      rintro v w2 ⟨rfl, he49⟩
      replace hry := hry.ext he49
      replace hey := hey.ext he49
      replace hrz := hrz.ext he49
      replace hez := hez.ext he49
      replace hE := hE.tr he49
      replace hoy := Own.ext hoy he49
      replace hrpz := hrpz.ext he49
      replace hFLq := FL.ext hFLq he49
      have hz_he49 := he49.size
      exact ⟨bt (by rw [hyz.1.1, hyz.1.2]), he49⟩
    · intro wd hxE
      replace hry := hry.ext hxE
      replace hey := hey.ext hxE
      replace hrz := hrz.ext hxE
      replace hez := hez.ext hxE
      replace hE := hE.tr hxE
      replace hoy := Own.ext hoy hxE
      replace hrpz := hrpz.ext hxE
      replace hFLq := FL.ext hFLq hxE
      have hz_hxE := hxE.size
      rintro _ rfl
      show OpG _ _ _ _ _ _
      exact og_plain rfl (ox_val (ov_not (b := true) rfl))
    · intro wd hxE
      replace hry := hry.ext hxE
      replace hey := hey.ext hxE
      replace hrz := hrz.ext hxE
      replace hez := hez.ext hxE
      replace hE := hE.tr hxE
      replace hoy := Own.ext hoy hxE
      replace hrpz := hrpz.ext hxE
      replace hFLq := FL.ext hFLq hxE
      have hz_hxE := hxE.size
      rintro _ rfl
      show OpG _ _ _ _ _ _
      exact og_plain rfl (ox_val (ov_move rfl))
    · intro wd hxE
      replace hry := hry.ext hxE
      replace hey := hey.ext hxE
      replace hrz := hrz.ext hxE
      replace hez := hez.ext hxE
      replace hE := hE.tr hxE
      replace hoy := Own.ext hoy hxE
      replace hrpz := hrpz.ext hxE
      replace hFLq := FL.ext hFLq hxE
      have hz_hxE := hxE.size
      rintro _ rfl
      show OpG _ _ _ _ _ _
      exact og_on rfl rfl rfl (ox_val (ov_move rfl))
    · intro wd hxE
      replace hry := hry.ext hxE
      replace hey := hey.ext hxE
      replace hrz := hrz.ext hxE
      replace hez := hez.ext hxE
      replace hE := hE.tr hxE
      replace hoy := Own.ext hoy hxE
      replace hrpz := hrpz.ext hxE
      replace hFLq := FL.ext hFLq hxE
      have hz_hxE := hxE.size
      rintro _ rfl
      show OpG _ _ _ _ _ _
      exact og_on rfl rfl rfl (ox_val (ov_move rfl))
    · intro wd hxE
      replace hry := hry.ext hxE
      replace hey := hey.ext hxE
      replace hrz := hrz.ext hxE
      replace hez := hez.ext hxE
      replace hE := hE.tr hxE
      replace hoy := Own.ext hoy hxE
      replace hrpz := hrpz.ext hxE
      replace hFLq := FL.ext hFLq hxE
      have hz_hxE := hxE.size
      rintro _ rfl
      rintro _ rfl
      rintro _ rfl
      show OpG _ _ _ _ _ _
      refine og_on rfl rfl rfl (OpRun.mono (or_rindex (m := (k)) sl61 rfl rfl hey (fun _ _ => rfl) hky) ?_)
      rintro v _ ⟨rfl, p54, rfl, hp54, hpl54, hph54⟩
      exact ⟨⟨p54, rfl, hp54⟩, ext_refl _⟩
    · intro wd hxE
      replace hry := hry.ext hxE
      replace hey := hey.ext hxE
      replace hrz := hrz.ext hxE
      replace hez := hez.ext hxE
      replace hE := hE.tr hxE
      replace hoy := Own.ext hoy hxE
      replace hrpz := hrpz.ext hxE
      replace hFLq := FL.ext hFLq hxE
      have hz_hxE := hxE.size
      rintro _ rfl
      rintro _ ⟨p54, rfl, hp54⟩
      show OpG _ _ _ _ _ _
      exact og_on rfl rfl rfl (ox_val (ov_load oc23 rfl (cell_zero hp54 rfl)))
    · intro wd hxE
      replace hry := hry.ext hxE
      replace hey := hey.ext hxE
      replace hrz := hrz.ext hxE
      replace hez := hez.ext hxE
      replace hE := hE.tr hxE
      replace hoy := Own.ext hoy hxE
      replace hrpz := hrpz.ext hxE
      replace hFLq := FL.ext hFLq hxE
      have hz_hxE := hxE.size
      rintro _ rfl
      show OpG _ _ _ _ _ _
      exact og_on rfl rfl rfl (ox_val (ov_move rfl))
    · intro wd hxE
      replace hry := hry.ext hxE
      replace hey := hey.ext hxE
      replace hrz := hrz.ext hxE
      replace hez := hez.ext hxE
      replace hE := hE.tr hxE
      replace hoy := Own.ext hoy hxE
      replace hrpz := hrpz.ext hxE
      replace hFLq := FL.ext hFLq hxE
      have hz_hxE := hxE.size
      rintro _ rfl
      show OpG _ _ _ _ _ _
      exact og_on rfl rfl rfl (ox_val (ov_move rfl))
    · intro wd hxE
      replace hry := hry.ext hxE
      replace hey := hey.ext hxE
      replace hrz := hrz.ext hxE
      replace hez := hez.ext hxE
      replace hE := hE.tr hxE
      replace hoy := Own.ext hoy hxE
      replace hrpz := hrpz.ext hxE
      replace hFLq := FL.ext hFLq hxE
      have hz_hxE := hxE.size
      rintro _ rfl
      rintro _ rfl
      rintro _ rfl
      show OpG _ _ _ _ _ _
      refine og_on rfl rfl rfl (OpRun.mono (or_rindex (m := (k)) sl64 rfl rfl hez (fun _ _ => rfl) hkz) ?_)
      rintro v _ ⟨rfl, p58, rfl, hp58, hpl58, hph58⟩
      exact ⟨⟨p58, rfl, hp58⟩, ext_refl _⟩
    · intro wd hxE
      replace hry := hry.ext hxE
      replace hey := hey.ext hxE
      replace hrz := hrz.ext hxE
      replace hez := hez.ext hxE
      replace hE := hE.tr hxE
      replace hoy := Own.ext hoy hxE
      replace hrpz := hrpz.ext hxE
      replace hFLq := FL.ext hFLq hxE
      have hz_hxE := hxE.size
      rintro _ rfl
      rintro _ ⟨p58, rfl, hp58⟩
      show OpG _ _ _ _ _ _
      exact og_on rfl rfl rfl (ox_val (ov_load oc3 rfl (cell_zero hp58 rfl)))
    · intro wf7 hf7
      replace hry := hry.ext hf7
      replace hey := hey.ext hf7
      replace hrz := hrz.ext hf7
      replace hez := hez.ext hf7
      replace hE := hE.tr hf7
      replace hoy := Own.ext hoy hf7
      replace hrpz := hrpz.ext hf7
      replace hFLq := FL.ext hFLq hf7
      have hz_hf7 := hf7.size
      rintro _ rfl
      rintro _ rfl
      rintro _ ⟨p43, rfl, hp43⟩
      rintro _ rfl
      rintro _ rfl
      rintro _ rfl
      rintro _ ⟨p47, rfl, hp47⟩
      rintro _ rfl
      rintro _ rfl
      rintro _ rfl
      rintro _ rfl
      rintro _ rfl
      rintro _ rfl
      rintro _ ⟨p54, rfl, hp54⟩
      rintro _ rfl
      rintro _ rfl
      rintro _ rfl
      rintro _ ⟨p58, rfl, hp58⟩
      rintro _ rfl
      show WL _ _ _ [_, _] _ _ _
      refine wl_gval (ov_neq rfl rfl) rfl rfl rfl rfl rfl ?_
      refine wl_spell (d := 60) rfl (bf (by rw [hyz.2]; omega)) ?_
      refine wl_val (ov_pick_f rfl rfl) rfl rfl rfl ?_
      refine q_nil ?_
      refine k_then ?_
      refine wc_cond_f rfl ?_
      refine q_skip ?_
      refine k_block ?_
      refine k_then ?_
      refine wc_regionL ?_
      refine wl_val (ov_add rfl rfl (wi64 (by omega) (by omega))) rfl rfl rfl ?_
      refine wl_val (ov_move rfl) rfl rfl rfl ?_
      refine q_nil ?_
      refine k_loop (k + 1) (by show ys16.length - (k + 1) < ys16.length - k; omega) (⟨rfl, rfl, rfl, rfl, rfl, rfl, trivial⟩) (⟨by omega, hry, hey, hrz, hez, hFLq, hE⟩)
  · refine q_exit ?_
    refine k_thenX ?_
    refine k_thenX ?_
    refine k_blockE ?_
    refine k_then ?_
    refine wc_seq ?_
    refine wc_regionL ?_
    refine wl_val (ov_assign rfl) rfl rfl rfl ?_
    refine q_nil ?_
    refine k_then ?_
    refine q_ret ?_
    refine e_ret rfl rfl ?_
    exact ⟨rfl, hE⟩

end Go.Proofs.Ytopfjpkjpmdhaaa
