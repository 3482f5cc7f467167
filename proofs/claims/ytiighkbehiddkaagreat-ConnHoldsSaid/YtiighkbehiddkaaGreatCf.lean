/-
 The examples of layer 28.
-/
import Derived.Test.YtiighkbehiddkaaGreatCe
namespace Go.Proofs.YtiighkbehiddkaaGreat
open Go.RowKit
set_option linter.unusedVariables false
set_option maxRecDepth 4000
theorem cl11 : callable Tryz.prog 11 = true := by kernel_rfl
theorem cl19 : callable Tryz.prog 19 = true := by kernel_rfl
theorem cl21 : callable Tryz.prog 21 = true := by kernel_rfl
theorem cl24 : callable Tryz.prog 24 = true := by kernel_rfl
theorem cl25 : callable Tryz.prog 25 = true := by kernel_rfl
theorem cl28 : callable Tryz.prog 28 = true := by kernel_rfl
theorem cl29 : callable Tryz.prog 29 = true := by kernel_rfl
theorem cl30 : callable Tryz.prog 30 = true := by kernel_rfl
theorem cl32 : callable Tryz.prog 32 = true := by kernel_rfl
theorem pl23 : placesOf Tryz.prog 23 = some [(0, 1), (1, 1), (2, 1)] := by kernel_rfl
theorem sz23 : (Tryz.prog.info? 23).map (·.size) = some 3 := by kernel_rfl
theorem ze23 : zeroOf Tryz.prog 23 = some (.agg #[(.int .i64 0), (.int .i64 0), (.int .i64 0)]) := by kernel_rfl
def kDone : Rsp := rspO 14 0
def kGet : Cmd := ⟨4, [97], [], [], [], 0, 0, [], [], []⟩
def kFlush : Cmd := cmd0 14
def kc0 : Cn := cnNew 24 64 16
def kc1 : Cn := (cnDel kc0 [1, 14, 3]).1
def kc2 : Cn := (cnStep kc1).1
def kc3 : Cn := (cnStep kc2).1
def kc4 : Cn := (cnAns kc3 kDone).1
def kc5 : Cn := (cnStep kc4).1
def kc6 : Cn := (cnStep kc5).1
def kc7 : Cn := (cnDel kc6 [4, 1, 97]).1
def kc8 : Cn := (cnStep kc7).1
def kc9 : Cn := (cnAns kc8 kDone).1
def kcZ : List UInt8 := List.replicate 25 0
def kc10 : Cn := (cnDel kc9 kcZ).1
def kd1 : Cn := (cnDel kc0 [0, 18, 1]).1
def kd2 : Cn := (cnStep kd1).1
def kd3 : Cn := (cnStep kd2).1
def kd4 : Cn := (cnStep kd3).1
def kd5 : Cn := (cnStep kd4).1
def kd6 : Cn := (cnDel kd5 [1]).1
def kd7 : Cn := (cnStep kd6).1
theorem kn1 : ((cnDel kc0 [1, 14, 3]).2.1 : Int) = 3 ∧ (cnDel kc0 [1, 14, 3]).2.2 = 0 := by decide +kernel
theorem kn2 : ((cnStep kc1).2 : Int) = 1 := by decide +kernel
theorem kn3 : ((cnStep kc2).2 : Int) = 3 := by decide +kernel
theorem kn4 : kc3.ph = 2 := by decide +kernel
theorem kn5 : (cnAns kc3 kDone).2 = 0 := by decide +kernel
theorem kn6 : ((cnStep kc4).2 : Int) = 4 := by decide +kernel
theorem kn7 : ((cnStep kc5).2 : Int) = 0 := by decide +kernel
theorem kn8 : ((cnDel kc6 [4, 1, 97]).2.1 : Int) = 3 ∧ (cnDel kc6 [4, 1, 97]).2.2 = 0 := by decide +kernel
theorem kn9 : ((cnStep kc7).2 : Int) = 1 := by decide +kernel
theorem kn10 : cnIn kc8 3 = 8 := by decide +kernel
theorem kn11 : (cnAns kc8 kDone).2 = 2 := by decide +kernel
theorem kn12 : ((cnDel kc9 kcZ).2.1 : Int) = 24 ∧ (cnDel kc9 kcZ).2.2 = 0 := by decide +kernel
theorem kn13 : dheld kc10.cl kc10.held = 24 ∧ kc10.out.length = (refB kDone).length := by decide +kernel
theorem kn14 : ((cnDel kc0 [0, 18, 1]).2.1 : Int) = 3 ∧ (cnDel kc0 [0, 18, 1]).2.2 = 0 := by decide +kernel
theorem kn15 : ((cnStep kd1).2 : Int) = 2 := by decide +kernel
theorem kn16 : ((cnStep kd2).2 : Int) = 4 := by decide +kernel
theorem kn17 : ((cnStep kd3).2 : Int) = 2 := by decide +kernel
theorem kn18 : ((cnStep kd4).2 : Int) = 4 := by decide +kernel
theorem kn19 : kd5.ph = 4 := by decide +kernel
theorem kn20 : (cnDel kd5 [1]).2.2 = 14 := by decide +kernel
theorem kn21 : ((cnStep kd6).2 : Int) = 0 := by decide +kernel
theorem kn22 : cnCmd kc2 = kFlush ∧ cnIn kc2 2 = 0 := by
 refine ⟨Cmd.ext_iff'.2 ⟨?_, ?_, ?_, ?_, ?_, ?_, ?_, ?_, ?_, ?_⟩, ?_⟩ <;> decide +kernel
theorem kn23 : cnCmd kc8 = kGet ∧ cnIn kc8 2 = 0 := by
 refine ⟨Cmd.ext_iff'.2 ⟨?_, ?_, ?_, ?_, ?_, ?_, ?_, ?_, ?_, ?_⟩, ?_⟩ <;> decide +kernel
set_option maxRecDepth 20000 in
set_option maxHeartbeats 4000000 in
theorem known28_any (w : World) :
  Fn Tryz.prog 10 #[] w (fun v w' => v = .bool true ∧ Ext w w')  := by
 have hE := ext_refl w
 refine fn_enter (args := []) Tryz.func10 rfl rfl rfl ?_
 show WC _ _ _ _ [] _
 refine wc_seq (wc_regionL ?_)
 refine va rfl rfl ?_
 refine q_nil (k_then (wc_seq (wc_regionL ?_)))
 refine wl_val (ov_build (cs := [(.int .i64 24), (.int .i64 64), (.int .i64 16)]) ze23 pl23 rfl rfl) rfl rfl rfl ?_
 refine wl_step (or_alloc (cs := [(.int .i64 0), (.int .i64 0), (.int .i64 0)]) ze23 rfl) rfl rfl rfl ?_
 rintro v w1 ⟨g1, rfl, hb_g1, he1, hl1, hu1⟩
 replace hE := hE.tr he1
 have hz_he1 := he1.size
 refine wl_step0 (or_storeBlk (vs := [(.int .i64 24), (.int .i64 64), (.int .i64 16)]) sz23 rfl rfl (by simp [Value.oneCell']) hb_g1 rfl) rfl rfl ?_
 rintro _ w2 ⟨hN2, hg2⟩
 have hz_hg2 := hg2.size
 replace hE := hE.gr hg2 (fun _ e => by cases e; omega)
 replace hb_g1 := hN2
 refine q_nil (k_then (wc_seq (wc_regionL ?_)))
 refine wl_val (ov_loadBlk (cs := [(.int .i64 24), (.int .i64 64), (.int .i64 16)]) ag23_3 rfl hb_g1) rfl rfl rfl ?_
 refine wl_step (or_call0 cl11 rfl rfl (cnew_ok _ 24 64 16 (by decide))) rfl rfl rfl ?_
 rintro v w3 ⟨gn15, S15, a15, rfl, hc15, hl15, he15⟩
 replace hE := hE.tr he15
 replace hb_g1 := hb_g1.ext he15
 have hz_he15 := he15.size
 obtain ⟨L15, hlo15⟩ : ∃ n, n = w2.heap.size := ⟨_, rfl⟩
 obtain ⟨H15, hhi15⟩ : ∃ n, n = w3.heap.size := ⟨_, rfl⟩
 replace hc15 : Cnn w3 gn15 S15 a15 a15 kc0 := hc15
 have hQ15 : ∀ x ∈ S15, L15 ≤ x ∧ x < H15 := fun x hx => ⟨by rw [hlo15]; exact hl15 x hx, by rw [hhi15]; exact (hc15.bnd.1 x hx).1⟩
 have hB_hc15 : (∀ x ∈ S15, x < w3.heap.size) ∧ a15 ≤ w3.heap.size := ⟨fun x hx => (hc15.bnd.1 x hx).1, hc15.bnd.2⟩
 refine vm rfl rfl ?_
 iterate 2 refine vx rfl rfl rfl ?_
 iterate 2 refine va rfl rfl ?_
 refine q_nil (k_then (wc_seq (wc_regionL ?_)))
 refine wl_val (ov_loadBlk (cs := [(.int .i64 24), (.int .i64 64), (.int .i64 16)]) ag23_3 rfl hb_g1) rfl rfl rfl ?_
 refine wl_step (or_call0 cl11 rfl rfl (cnew_ok _ 24 64 16 (by decide))) rfl rfl rfl ?_
 rintro v w4 ⟨gn20, S20, a20, rfl, hc20, hl20, he20⟩
 replace hE := hE.tr he20
 replace hc15 := hc15.ext he20
 have hz_he20 := he20.size
 obtain ⟨L20, hlo20⟩ : ∃ n, n = w3.heap.size := ⟨_, rfl⟩
 obtain ⟨H20, hhi20⟩ : ∃ n, n = w4.heap.size := ⟨_, rfl⟩
 replace hc20 : Cnn w4 gn20 S20 a20 a20 kc0 := hc20
 have hQ20 : ∀ x ∈ S20, L20 ≤ x ∧ x < H20 := fun x hx => ⟨by rw [hlo20]; exact hl20 x hx, by rw [hhi20]; exact (hc20.bnd.1 x hx).1⟩
 have hB_hc20 : (∀ x ∈ S20, x < w4.heap.size) ∧ a20 ≤ w4.heap.size := ⟨fun x hx => (hc20.bnd.1 x hx).1, hc20.bnd.2⟩
 refine vm rfl rfl ?_
 iterate 2 refine vx rfl rfl rfl ?_
 iterate 2 refine va rfl rfl ?_
 refine q_nil (k_then (wc_seq (wc_seq (wc_regionL ?_))))
 refine vm rfl rfl ?_
 refine wl_val (ov_nilptr Tryz.underlying28 rfl) rfl rfl rfl ?_
 refine vm rfl rfl ?_
 refine wl_gval (ov_move rfl) rfl rfl rfl rfl rfl ?_
 refine wl_gval (ov_neq rfl rfl) rfl rfl rfl rfl rfl ?_
 refine wl_val (ov_pick_f rfl rfl) rfl rfl rfl ?_
 refine vm rfl rfl ?_
 refine wl_gval (ov_move rfl) rfl rfl rfl rfl rfl ?_
 refine wl_gval (ov_nilptr Tryz.underlying28 rfl) rfl rfl rfl rfl rfl ?_
 refine wl_val (ov_pick_f rfl rfl) rfl rfl rfl ?_
 refine vm rfl rfl ?_
 refine wl_gval (ov_move rfl) rfl rfl rfl rfl rfl ?_
 refine wl_gval (ov_neq rfl rfl) rfl rfl rfl rfl rfl ?_
 refine wl_val (ov_pick_f rfl rfl) rfl rfl rfl ?_
 refine q_nil (k_then ?_)
 refine wc_cond_f rfl ?_
 refine q_skip (k_then (wc_seq (wc_regionL ?_)))
 refine wl_val (ov_build (cs := [(.int .i64 4), (.string (strB [97])), (.slice none 0 0), (.slice none 0 0), (.slice none 0 0), (.int .u64 0), (.int .u64 0), (.string (strB [])), (.string (strB [])), (.string (strB []))]) ze39 pl39 rfl rfl) rfl rfl rfl ?_
 refine wl_val (ov_build (cs := [(.int .i64 14), (.string (strB [])), (.slice none 0 0), (.slice none 0 0), (.slice none 0 0), (.int .u64 0), (.int .u64 0), (.string (strB [])), (.string (strB [])), (.string (strB []))]) ze39 pl39 rfl rfl) rfl rfl rfl ?_
 refine wl_step (or_alloc (cs := [(.int .i64 0), (.string (strB [])), (.slice none 0 0), (.slice none 0 0), (.slice none 0 0), (.int .u64 0), (.int .u64 0), (.string (strB [])), (.string (strB [])), (.string (strB []))]) ze39 rfl) rfl rfl rfl ?_
 rintro v w5 ⟨g6, rfl, hb_g6, he6, hl6, hu6⟩
 replace hE := hE.tr he6
 replace hc15 := hc15.ext he6
 replace hc20 := hc20.ext he6
 have hz_he6 := he6.size
 refine wl_step (or_alloc (cs := [(.int .i64 0), (.string (strB [])), (.slice none 0 0), (.slice none 0 0), (.slice none 0 0), (.int .u64 0), (.int .u64 0), (.string (strB [])), (.string (strB [])), (.string (strB []))]) ze39 rfl) rfl rfl rfl ?_
 rintro v w6 ⟨g7, rfl, hb_g7, he7, hl7, hu7⟩
 replace hE := hE.tr he7
 replace hc15 := hc15.ext he7
 replace hc20 := hc20.ext he7
 replace hb_g6 := hb_g6.ext he7
 have hz_he7 := he7.size
 refine wl_step0 (or_storeBlk (vs := [(.int .i64 4), (.string (strB [97])), (.slice none 0 0), (.slice none 0 0), (.slice none 0 0), (.int .u64 0), (.int .u64 0), (.string (strB [])), (.string (strB [])), (.string (strB []))]) sz39 rfl rfl (by simp [Value.oneCell']) hb_g6 rfl) rfl rfl ?_
 rintro _ w7 ⟨hN7, hg7⟩
 have hz_hg7 := hg7.size
 replace hE := hE.gr hg7 (fun _ e => by cases e; omega)
 replace hc15 := hc15.grf hg7 hB_hc15 (by omega)
 replace hc20 := hc20.grf hg7 hB_hc20 (by omega)
 replace hb_g7 := hb_g7.gr hg7 (by intro e; cases e; omega)
 replace hb_g6 := hN7
 refine wl_step0 (or_storeBlk (vs := [(.int .i64 14), (.string (strB [])), (.slice none 0 0), (.slice none 0 0), (.slice none 0 0), (.int .u64 0), (.int .u64 0), (.string (strB [])), (.string (strB [])), (.string (strB []))]) sz39 rfl rfl (by simp [Value.oneCell']) hb_g7 rfl) rfl rfl ?_
 rintro _ w8 ⟨hN8, hg8⟩
 have hz_hg8 := hg8.size
 replace hE := hE.gr hg8 (fun _ e => by cases e; omega)
 replace hc15 := hc15.grf hg8 hB_hc15 (by omega)
 replace hc20 := hc20.grf hg8 hB_hc20 (by omega)
 replace hb_g6 := hb_g6.gr hg8 (by intro e; cases e; omega)
 replace hb_g7 := hN8
 refine q_nil (k_then (wc_seq (wc_regionL ?_)))
 refine wl_val (ov_build (cs := [(.int .i64 14), (.int .i64 0), (.slice none 0 0), (.int .u64 0), (.int .i64 0), (.slice none 0 0)]) ze43 pl43 rfl rfl) rfl rfl rfl ?_
 refine wl_step (or_alloc (cs := [(.int .i64 0), (.int .i64 0), (.slice none 0 0), (.int .u64 0), (.int .i64 0), (.slice none 0 0)]) ze43 rfl) rfl rfl rfl ?_
 rintro v w9 ⟨g8, rfl, hb_g8, he8, hl8, hu8⟩
 replace hE := hE.tr he8
 replace hc15 := hc15.ext he8
 replace hc20 := hc20.ext he8
 replace hb_g6 := hb_g6.ext he8
 replace hb_g7 := hb_g7.ext he8
 have hz_he8 := he8.size
 refine wl_step0 (or_storeBlk (vs := [(.int .i64 14), (.int .i64 0), (.slice none 0 0), (.int .u64 0), (.int .i64 0), (.slice none 0 0)]) sz43 rfl rfl (by simp [Value.oneCell']) hb_g8 rfl) rfl rfl ?_
 rintro _ w10 ⟨hN10, hg10⟩
 have hz_hg10 := hg10.size
 replace hE := hE.gr hg10 (fun _ e => by cases e; omega)
 replace hc15 := hc15.grf hg10 hB_hc15 (by omega)
 replace hc20 := hc20.grf hg10 hB_hc20 (by omega)
 replace hb_g6 := hb_g6.gr hg10 (by intro e; cases e; omega)
 replace hb_g7 := hb_g7.gr hg10 (by intro e; cases e; omega)
 replace hb_g8 := hN10
 refine q_nil (k_then (wc_seq (wc_seq (wc_regionL ?_))))
 refine vm rfl rfl ?_
 obtain ⟨B0, hB0⟩ : ∃ n, n = w10.heap.size := ⟨_, rfl⟩
 have hP15 : ∀ x ∈ S15, ((L15 ≤ x ∧ x < H15) ∨ B0 ≤ x) := fun x hx => .inl (hQ15 x hx)
 refine wl_step (or_buildBytes (l := [1, 14, 3]) bt32 (os := [.const (.int .u8 1), .const (.int .u8 14), .const (.int .u8 3)]) rfl rfl rfl (by decide)) rfl rfl rfl ?_
 rintro v w11 ⟨A41, c41, rfl, ho41, he41⟩
 replace hE := hE.tr he41
 replace hc15 := hc15.ext he41
 replace hc20 := hc20.ext he41
 replace hb_g6 := hb_g6.ext he41
 replace hb_g7 := hb_g7.ext he41
 replace hb_g8 := hb_g8.ext he41
 have hz_he41 := he41.size
 refine wl_step (or_call0 cl29 rfl rfl (lw28_del _ _ S15 a15 a15 kc0 hc15 3 _ _ A41 c41 [1, 14, 3] (OwnB.rd ho41) (fun x hx => by have h1 := hP15 x hx; have h2 := hB_hc15.1 x hx; omega) (by decide) kn1)) rfl rfl rfl ?_
 rintro v w12 ⟨rfl, hto42⟩
 obtain ⟨S42, a42, b42, hc42, hk42, hS42, hab42⟩ := hto42
 replace hc42 : Cnn w12 gn15 S42 a42 b42 kc1 := hc42
 have hz42 := hk42.size
 replace hE := hk42.e0 hE (fun x hx => by have := hP15 x hx; omega)
 replace hc20 := hc20.kp hk42 (fun x hx => ⟨fun hx2 => by have h1 := hP15 x hx; have h2 := hQ20 x hx2; omega, by have := hP15 x hx; omega⟩)
 replace hb_g6 := hk42.bk hb_g6 (fun hx => by have := hP15 _ hx; omega)
 replace hb_g7 := hk42.bk hb_g7 (fun hx => by have := hP15 _ hx; omega)
 replace hb_g8 := hk42.bk hb_g8 (fun hx => by have := hP15 _ hx; omega)
 have hP42 : ∀ x ∈ S42, ((L15 ≤ x ∧ x < H15) ∨ B0 ≤ x) := fun x hx => (hS42 x hx).elim (fun h => hP15 x h) (fun h => .inr (by omega))
 have hB_hc42 : (∀ x ∈ S42, x < w12.heap.size) ∧ b42 ≤ w12.heap.size := ⟨fun x hx => (hc42.bnd.1 x hx).1, hc42.bnd.2⟩
 refine wl_val (ov_not (b := true) rfl) rfl rfl rfl ?_
 refine vm rfl rfl ?_
 refine wl_gval (ov_move rfl) rfl rfl rfl rfl rfl ?_
 refine wl_gstep (or_call0 cl30 rfl rfl (lw28_steps _ _ S42 a42 b42 kc1 hc42 1 (by decide +kernel) kn2)) rfl rfl rfl rfl rfl ?_
 rintro v w13 ⟨rfl, hto46⟩
 obtain ⟨S46, a46, b46, hc46, hk46, hS46, hab46⟩ := hto46
 replace hc46 : Cnn w13 gn15 S46 a46 b46 kc2 := hc46
 have hz46 := hk46.size
 replace hE := hk46.e0 hE (fun x hx => by have := hP42 x hx; omega)
 replace hc20 := hc20.kp hk46 (fun x hx => ⟨fun hx2 => by have h1 := hP42 x hx; have h2 := hQ20 x hx2; omega, by have := hP42 x hx; omega⟩)
 replace hb_g6 := hk46.bk hb_g6 (fun hx => by have := hP42 _ hx; omega)
 replace hb_g7 := hk46.bk hb_g7 (fun hx => by have := hP42 _ hx; omega)
 replace hb_g8 := hk46.bk hb_g8 (fun hx => by have := hP42 _ hx; omega)
 have hP46 : ∀ x ∈ S46, ((L15 ≤ x ∧ x < H15) ∨ B0 ≤ x) := fun x hx => (hS46 x hx).elim (fun h => hP42 x h) (fun h => .inr (by omega))
 have hB_hc46 : (∀ x ∈ S46, x < w13.heap.size) ∧ b46 ≤ w13.heap.size := ⟨fun x hx => (hc46.bnd.1 x hx).1, hc46.bnd.2⟩
 refine wl_gval (ov_not (b := true) rfl) rfl rfl rfl rfl rfl ?_
 refine wl_val (ov_pick_f rfl rfl) rfl rfl rfl ?_
 refine vm rfl rfl ?_
 refine wl_gval (ov_move rfl) rfl rfl rfl rfl rfl ?_
 refine wl_gval (ov_loadBlk (cs := [(.int .i64 14), (.string (strB [])), (.slice none 0 0), (.slice none 0 0), (.slice none 0 0), (.int .u64 0), (.int .u64 0), (.string (strB [])), (.string (strB [])), (.string (strB []))]) ag39_10 rfl hb_g7) rfl rfl rfl rfl rfl ?_
 refine wl_gstep (or_call0 cl32 rfl rfl (lw28_cmds _ _ S46 a46 b46 kc2 hc46 kFlush 0 0 none 0 none 0 none 0 (Rd.nil _ _ _ _ _ _ (Nat.zero_le _)) (Rd.nil _ _ _ _ _ _ (Nat.zero_le _)) (Rd.nil _ _ _ _ _ _ (Nat.zero_le _)) kn22)) rfl rfl rfl rfl rfl ?_
 rintro v w14 ⟨rfl, he52⟩
 replace hE := hE.tr he52
 replace hc20 := hc20.ext he52
 replace hb_g6 := hb_g6.ext he52
 replace hb_g8 := hb_g8.ext he52
 replace hc46 := hc46.ext he52
 have hz_he52 := he52.size
 refine wl_gval (ov_not (b := true) rfl) rfl rfl rfl rfl rfl ?_
 refine wl_val (ov_pick_f rfl rfl) rfl rfl rfl ?_
 refine vm rfl rfl ?_
 refine wl_gval (ov_move rfl) rfl rfl rfl rfl rfl ?_
 refine wl_gstep (or_call0 cl30 rfl rfl (lw28_steps _ _ S46 a46 b46 kc2 hc46 3 (by decide +kernel) kn3)) rfl rfl rfl rfl rfl ?_
 rintro v w15 ⟨rfl, hto57⟩
 obtain ⟨S57, a57, b57, hc57, hk57, hS57, hab57⟩ := hto57
 replace hc57 : Cnn w15 gn15 S57 a57 b57 kc3 := hc57
 have hz57 := hk57.size
 replace hE := hk57.e0 hE (fun x hx => by have := hP46 x hx; omega)
 replace hc20 := hc20.kp hk57 (fun x hx => ⟨fun hx2 => by have h1 := hP46 x hx; have h2 := hQ20 x hx2; omega, by have := hP46 x hx; omega⟩)
 replace hb_g6 := hk57.bk hb_g6 (fun hx => by have := hP46 _ hx; omega)
 replace hb_g8 := hk57.bk hb_g8 (fun hx => by have := hP46 _ hx; omega)
 have hP57 : ∀ x ∈ S57, ((L15 ≤ x ∧ x < H15) ∨ B0 ≤ x) := fun x hx => (hS57 x hx).elim (fun h => hP46 x h) (fun h => .inr (by omega))
 have hB_hc57 : (∀ x ∈ S57, x < w15.heap.size) ∧ b57 ≤ w15.heap.size := ⟨fun x hx => (hc57.bnd.1 x hx).1, hc57.bnd.2⟩
 refine wl_gval (ov_not (b := true) rfl) rfl rfl rfl rfl rfl ?_
 refine wl_val (ov_pick_f rfl rfl) rfl rfl rfl ?_
 refine vm rfl rfl ?_
 refine wl_gval (ov_move rfl) rfl rfl rfl rfl rfl ?_
 refine wl_gstep (or_call0 cl25 rfl rfl (lcphase _ _ S57 a57 b57 kc3 hc57)) rfl rfl rfl rfl rfl ?_
 rintro v w16 ⟨rfl, he62⟩
 replace hE := hE.tr he62
 replace hc20 := hc20.ext he62
 replace hb_g6 := hb_g6.ext he62
 replace hb_g8 := hb_g8.ext he62
 replace hc57 := hc57.ext he62
 have hz_he62 := he62.size
 refine wl_spell (d := 62) rfl (v' := (.int .i64 2)) (by rw [kn4]; rfl) ?_
 refine wl_gval (ov_neq rfl rfl) rfl rfl rfl rfl rfl ?_
 refine wl_val (ov_pick_f rfl rfl) rfl rfl rfl ?_
 refine q_nil (k_then ?_)
 refine wc_cond_f rfl ?_
 refine q_skip (k_then (wc_seq (wc_seq (wc_regionL ?_))))
 refine vm rfl rfl ?_
 refine wl_val (ov_loadBlk (cs := [(.int .i64 14), (.int .i64 0), (.slice none 0 0), (.int .u64 0), (.int .i64 0), (.slice none 0 0)]) ag43_6 rfl hb_g8) rfl rfl rfl ?_
 refine wl_step (or_call0 cl24 rfl rfl (lcans _ _ S57 a57 b57 kc3 hc57 kDone [] rfl 0 0 none 0 none 0 (RdI.nil _ 0 0) (Rd.nil _ _ _ _ _ _ (Nat.zero_le _)) (rspok_e _ _) (rsz_e _ _))) rfl rfl rfl ?_
 rintro v w17 ⟨rfl, hto67⟩
 obtain ⟨S67, a67, b67, hc67, hk67, hS67, hab67⟩ := hto67
 replace hc67 : Cnn w17 gn15 S67 a67 b67 kc4 := hc67
 have hz67 := hk67.size
 replace hE := hk67.e0 hE (fun x hx => by have := hP57 x hx; omega)
 replace hc20 := hc20.kp hk67 (fun x hx => ⟨fun hx2 => by have h1 := hP57 x hx; have h2 := hQ20 x hx2; omega, by have := hP57 x hx; omega⟩)
 replace hb_g6 := hk67.bk hb_g6 (fun hx => by have := hP57 _ hx; omega)
 replace hb_g8 := hk67.bk hb_g8 (fun hx => by have := hP57 _ hx; omega)
 have hP67 : ∀ x ∈ S67, ((L15 ≤ x ∧ x < H15) ∨ B0 ≤ x) := fun x hx => (hS67 x hx).elim (fun h => hP57 x h) (fun h => .inr (by omega))
 have hB_hc67 : (∀ x ∈ S67, x < w17.heap.size) ∧ b67 ≤ w17.heap.size := ⟨fun x hx => (hc67.bnd.1 x hx).1, hc67.bnd.2⟩
 refine wl_spell (d := 67) rfl (v' := (.int .i64 0)) (by rw [kn5]; rfl) ?_
 refine wl_val (ov_neq rfl rfl) rfl rfl rfl ?_
 refine vm rfl rfl ?_
 refine wl_gval (ov_move rfl) rfl rfl rfl rfl rfl ?_
 refine wl_gstep (or_call0 cl30 rfl rfl (lw28_steps _ _ S67 a67 b67 kc4 hc67 4 (by decide +kernel) kn6)) rfl rfl rfl rfl rfl ?_
 rintro v w18 ⟨rfl, hto71⟩
 obtain ⟨S71, a71, b71, hc71, hk71, hS71, hab71⟩ := hto71
 replace hc71 : Cnn w18 gn15 S71 a71 b71 kc5 := hc71
 have hz71 := hk71.size
 replace hE := hk71.e0 hE (fun x hx => by have := hP67 x hx; omega)
 replace hc20 := hc20.kp hk71 (fun x hx => ⟨fun hx2 => by have h1 := hP67 x hx; have h2 := hQ20 x hx2; omega, by have := hP67 x hx; omega⟩)
 replace hb_g6 := hk71.bk hb_g6 (fun hx => by have := hP67 _ hx; omega)
 replace hb_g8 := hk71.bk hb_g8 (fun hx => by have := hP67 _ hx; omega)
 have hP71 : ∀ x ∈ S71, ((L15 ≤ x ∧ x < H15) ∨ B0 ≤ x) := fun x hx => (hS71 x hx).elim (fun h => hP67 x h) (fun h => .inr (by omega))
 have hB_hc71 : (∀ x ∈ S71, x < w18.heap.size) ∧ b71 ≤ w18.heap.size := ⟨fun x hx => (hc71.bnd.1 x hx).1, hc71.bnd.2⟩
 refine wl_gval (ov_not (b := true) rfl) rfl rfl rfl rfl rfl ?_
 refine wl_val (ov_pick_f rfl rfl) rfl rfl rfl ?_
 refine vm rfl rfl ?_
 refine wl_gval (ov_move rfl) rfl rfl rfl rfl rfl ?_
 refine wl_gstep (or_call0 cl30 rfl rfl (lw28_steps _ _ S71 a71 b71 kc5 hc71 0 (by decide +kernel) kn7)) rfl rfl rfl rfl rfl ?_
 rintro v w19 ⟨rfl, hto76⟩
 obtain ⟨S76, a76, b76, hc76, hk76, hS76, hab76⟩ := hto76
 replace hc76 : Cnn w19 gn15 S76 a76 b76 kc6 := hc76
 have hz76 := hk76.size
 replace hE := hk76.e0 hE (fun x hx => by have := hP71 x hx; omega)
 replace hc20 := hc20.kp hk76 (fun x hx => ⟨fun hx2 => by have h1 := hP71 x hx; have h2 := hQ20 x hx2; omega, by have := hP71 x hx; omega⟩)
 replace hb_g6 := hk76.bk hb_g6 (fun hx => by have := hP71 _ hx; omega)
 replace hb_g8 := hk76.bk hb_g8 (fun hx => by have := hP71 _ hx; omega)
 have hP76 : ∀ x ∈ S76, ((L15 ≤ x ∧ x < H15) ∨ B0 ≤ x) := fun x hx => (hS76 x hx).elim (fun h => hP71 x h) (fun h => .inr (by omega))
 have hB_hc76 : (∀ x ∈ S76, x < w19.heap.size) ∧ b76 ≤ w19.heap.size := ⟨fun x hx => (hc76.bnd.1 x hx).1, hc76.bnd.2⟩
 refine wl_gval (ov_not (b := true) rfl) rfl rfl rfl rfl rfl ?_
 refine wl_val (ov_pick_f rfl rfl) rfl rfl rfl ?_
 refine vm rfl rfl ?_
 refine wl_gval (ov_move rfl) rfl rfl rfl rfl rfl ?_
 refine wl_gstep (or_buildBytes (l := [4, 1, 97]) bt32 (os := [.const (.int .u8 4), .const (.int .u8 1), .const (.int .u8 97)]) rfl rfl rfl (by decide)) rfl rfl rfl rfl rfl ?_
 rintro v w20 ⟨A81, c81, rfl, ho81, he81⟩
 replace hE := hE.tr he81
 replace hc20 := hc20.ext he81
 replace hb_g6 := hb_g6.ext he81
 replace hb_g8 := hb_g8.ext he81
 replace hc76 := hc76.ext he81
 have hz_he81 := he81.size
 refine wl_gstep (or_call0 cl29 rfl rfl (lw28_del _ _ S76 a76 b76 kc6 hc76 3 _ _ A81 c81 [4, 1, 97] (OwnB.rd ho81) (fun x hx => by have h1 := hP76 x hx; have h2 := hB_hc76.1 x hx; omega) (by decide) kn8)) rfl rfl rfl rfl rfl ?_
 rintro v w21 ⟨rfl, hto82⟩
 obtain ⟨S82, a82, b82, hc82, hk82, hS82, hab82⟩ := hto82
 replace hc82 : Cnn w21 gn15 S82 a82 b82 kc7 := hc82
 have hz82 := hk82.size
 replace hE := hk82.e0 hE (fun x hx => by have := hP76 x hx; omega)
 replace hc20 := hc20.kp hk82 (fun x hx => ⟨fun hx2 => by have h1 := hP76 x hx; have h2 := hQ20 x hx2; omega, by have := hP76 x hx; omega⟩)
 replace hb_g6 := hk82.bk hb_g6 (fun hx => by have := hP76 _ hx; omega)
 replace hb_g8 := hk82.bk hb_g8 (fun hx => by have := hP76 _ hx; omega)
 have hP82 : ∀ x ∈ S82, ((L15 ≤ x ∧ x < H15) ∨ B0 ≤ x) := fun x hx => (hS82 x hx).elim (fun h => hP76 x h) (fun h => .inr (by omega))
 have hB_hc82 : (∀ x ∈ S82, x < w21.heap.size) ∧ b82 ≤ w21.heap.size := ⟨fun x hx => (hc82.bnd.1 x hx).1, hc82.bnd.2⟩
 refine wl_gval (ov_not (b := true) rfl) rfl rfl rfl rfl rfl ?_
 refine wl_val (ov_pick_f rfl rfl) rfl rfl rfl ?_
 refine vm rfl rfl ?_
 refine wl_gval (ov_move rfl) rfl rfl rfl rfl rfl ?_
 refine wl_gstep (or_call0 cl30 rfl rfl (lw28_steps _ _ S82 a82 b82 kc7 hc82 1 (by decide +kernel) kn9)) rfl rfl rfl rfl rfl ?_
 rintro v w22 ⟨rfl, hto87⟩
 obtain ⟨S87, a87, b87, hc87, hk87, hS87, hab87⟩ := hto87
 replace hc87 : Cnn w22 gn15 S87 a87 b87 kc8 := hc87
 have hz87 := hk87.size
 replace hE := hk87.e0 hE (fun x hx => by have := hP82 x hx; omega)
 replace hc20 := hc20.kp hk87 (fun x hx => ⟨fun hx2 => by have h1 := hP82 x hx; have h2 := hQ20 x hx2; omega, by have := hP82 x hx; omega⟩)
 replace hb_g6 := hk87.bk hb_g6 (fun hx => by have := hP82 _ hx; omega)
 replace hb_g8 := hk87.bk hb_g8 (fun hx => by have := hP82 _ hx; omega)
 have hP87 : ∀ x ∈ S87, ((L15 ≤ x ∧ x < H15) ∨ B0 ≤ x) := fun x hx => (hS87 x hx).elim (fun h => hP82 x h) (fun h => .inr (by omega))
 have hB_hc87 : (∀ x ∈ S87, x < w22.heap.size) ∧ b87 ≤ w22.heap.size := ⟨fun x hx => (hc87.bnd.1 x hx).1, hc87.bnd.2⟩
 refine wl_gval (ov_not (b := true) rfl) rfl rfl rfl rfl rfl ?_
 refine wl_val (ov_pick_f rfl rfl) rfl rfl rfl ?_
 refine vm rfl rfl ?_
 refine wl_gval (ov_move rfl) rfl rfl rfl rfl rfl ?_
 refine wl_gval (ov_loadBlk (cs := [(.int .i64 4), (.string (strB [97])), (.slice none 0 0), (.slice none 0 0), (.slice none 0 0), (.int .u64 0), (.int .u64 0), (.string (strB [])), (.string (strB [])), (.string (strB []))]) ag39_10 rfl hb_g6) rfl rfl rfl rfl rfl ?_
 refine wl_gstep (or_call0 cl32 rfl rfl (lw28_cmds _ _ S87 a87 b87 kc8 hc87 kGet 0 0 none 0 none 0 none 0 (Rd.nil _ _ _ _ _ _ (Nat.zero_le _)) (Rd.nil _ _ _ _ _ _ (Nat.zero_le _)) (Rd.nil _ _ _ _ _ _ (Nat.zero_le _)) kn23)) rfl rfl rfl rfl rfl ?_
 rintro v w23 ⟨rfl, he93⟩
 replace hE := hE.tr he93
 replace hc20 := hc20.ext he93
 replace hb_g8 := hb_g8.ext he93
 replace hc87 := hc87.ext he93
 have hz_he93 := he93.size
 refine wl_gval (ov_not (b := true) rfl) rfl rfl rfl rfl rfl ?_
 refine wl_val (ov_pick_f rfl rfl) rfl rfl rfl ?_
 refine q_nil (k_then ?_)
 refine wc_cond_f rfl ?_
 refine q_skip (k_then (wc_seq (wc_regionL ?_)))
 refine vm rfl rfl ?_
 refine wl_step (or_call0 cl19 rfl rfl (lcrsp _ _ S87 a87 b87 kc8 hc87)) rfl rfl rfl ?_
 rintro v w24 ⟨X98, cx98, N98, cn98, xs98, rfl, hv98, hx98, hn98, he98⟩
 replace hE := hE.tr he98
 replace hc20 := hc20.ext he98
 replace hb_g8 := hb_g8.ext he98
 replace hc87 := hc87.ext he98
 have hz_he98 := he98.size
 refine vm rfl rfl ?_
 iterate 2 refine vx rfl rfl rfl ?_
 refine va rfl rfl ?_
 refine q_nil (k_then (wc_seq (wc_seq (wc_regionL ?_))))
 refine vm rfl rfl ?_
 refine wl_val (ov_loadBlk (cs := [(.int .i64 14), (.int .i64 0), (.slice none 0 0), (.int .u64 0), (.int .i64 0), (.slice none 0 0)]) ag43_6 rfl hb_g8) rfl rfl rfl ?_
 refine wl_step (or_call0 cl24 rfl rfl (lcans _ _ S87 a87 b87 kc8 hc87 kDone [] rfl 0 0 none 0 none 0 (RdI.nil _ 0 0) (Rd.nil _ _ _ _ _ _ (Nat.zero_le _)) (rspok_e _ _) (rsz_e _ _))) rfl rfl rfl ?_
 rintro v w25 ⟨rfl, hto103⟩
 obtain ⟨S103, a103, b103, hc103, hk103, hS103, hab103⟩ := hto103
 replace hc103 : Cnn w25 gn15 S103 a103 b103 kc9 := hc103
 have hz103 := hk103.size
 replace hE := hk103.e0 hE (fun x hx => by have := hP87 x hx; omega)
 replace hc20 := hc20.kp hk103 (fun x hx => ⟨fun hx2 => by have h1 := hP87 x hx; have h2 := hQ20 x hx2; omega, by have := hP87 x hx; omega⟩)
 replace hb_g8 := hk103.bk hb_g8 (fun hx => by have := hP87 _ hx; omega)
 have hP103 : ∀ x ∈ S103, ((L15 ≤ x ∧ x < H15) ∨ B0 ≤ x) := fun x hx => (hS103 x hx).elim (fun h => hP87 x h) (fun h => .inr (by omega))
 have hB_hc103 : (∀ x ∈ S103, x < w25.heap.size) ∧ b103 ≤ w25.heap.size := ⟨fun x hx => (hc103.bnd.1 x hx).1, hc103.bnd.2⟩
 refine wl_spell (d := 103) rfl (v' := (.int .i64 2)) (by rw [kn11]; rfl) ?_
 refine wl_val (ov_neq rfl rfl) rfl rfl rfl ?_
 refine vm rfl rfl ?_
 refine wl_gval (ov_move rfl) rfl rfl rfl rfl rfl ?_
 refine wl_gval (ov_neq rfl rfl) rfl rfl rfl rfl rfl ?_
 refine wl_spell (d := 107) rfl (bf (by rw [kn10]; decide)) ?_
 refine wl_val (ov_pick_f rfl rfl) rfl rfl rfl ?_
 refine vm rfl rfl ?_
 refine wl_gval (ov_move rfl) rfl rfl rfl rfl rfl ?_
 refine wl_gstep (or_makeBytes (n := 25) bt32 rfl rfl (by omega) (by omega)) rfl rfl rfl rfl rfl ?_
 rintro v w26 ⟨A111, c111, rfl, ho111, he111⟩
 replace hE := hE.tr he111
 replace hc20 := hc20.ext he111
 replace hb_g8 := hb_g8.ext he111
 replace hc103 := hc103.ext he111
 have hz_he111 := he111.size
 refine wl_gstep (or_call0 cl29 rfl rfl (lw28_del _ _ S103 a103 b103 kc9 hc103 24 _ _ A111 c111 (List.replicate 25 0) (OwnB.rd ho111) (fun x hx => by have h1 := hP103 x hx; have h2 := hB_hc103.1 x hx; omega) (by decide) kn12)) rfl rfl rfl rfl rfl ?_
 rintro v w27 ⟨rfl, hto112⟩
 obtain ⟨S112, a112, b112, hc112, hk112, hS112, hab112⟩ := hto112
 replace hc112 : Cnn w27 gn15 S112 a112 b112 kc10 := hc112
 have hz112 := hk112.size
 replace hE := hk112.e0 hE (fun x hx => by have := hP103 x hx; omega)
 replace hc20 := hc20.kp hk112 (fun x hx => ⟨fun hx2 => by have h1 := hP103 x hx; have h2 := hQ20 x hx2; omega, by have := hP103 x hx; omega⟩)
 replace hb_g8 := hk112.bk hb_g8 (fun hx => by have := hP103 _ hx; omega)
 have hP112 : ∀ x ∈ S112, ((L15 ≤ x ∧ x < H15) ∨ B0 ≤ x) := fun x hx => (hS112 x hx).elim (fun h => hP103 x h) (fun h => .inr (by omega))
 have hB_hc112 : (∀ x ∈ S112, x < w27.heap.size) ∧ b112 ≤ w27.heap.size := ⟨fun x hx => (hc112.bnd.1 x hx).1, hc112.bnd.2⟩
 refine wl_gval (ov_not (b := true) rfl) rfl rfl rfl rfl rfl ?_
 refine wl_val (ov_pick_f rfl rfl) rfl rfl rfl ?_
 refine q_nil (k_then ?_)
 refine wc_cond_f rfl ?_
 refine q_skip (k_then (wc_seq (wc_seq (wc_regionL ?_))))
 refine vm rfl rfl ?_
 refine wl_step (or_call0 cl21 rfl rfl (lcsizes _ _ S112 a112 b112 kc10 hc112)) rfl rfl rfl ?_
 rintro v w28 ⟨rfl, he117⟩
 replace hE := hE.tr he117
 replace hc20 := hc20.ext he117
 replace hb_g8 := hb_g8.ext he117
 have hz_he117 := he117.size
 refine vm rfl rfl ?_
 iterate 2 refine vx rfl rfl rfl ?_
 iterate 2 refine va rfl rfl ?_
 refine q_nil (k_then (wc_seq (wc_regionL ?_)))
 refine vm rfl rfl ?_
 refine wl_val (ov_neq rfl rfl) rfl rfl rfl ?_
 refine wl_spell (d := 121) rfl (bf (by rw [kn13.1]; decide)) ?_
 refine vm rfl rfl ?_
 refine wl_gval (ov_move rfl) rfl rfl rfl rfl rfl ?_
 refine wl_gval (ov_loadBlk (cs := [(.int .i64 14), (.int .i64 0), (.slice none 0 0), (.int .u64 0), (.int .i64 0), (.slice none 0 0)]) ag43_6 rfl hb_g8) rfl rfl rfl rfl rfl ?_
 refine wl_gstep (or_call0 cl28 rfl rfl (bytes28_any _ kDone [] rfl 0 0 none 0 none 0 (RdI.nil _ 0 0) (Rd.nil _ _ _ _ _ _ (Nat.zero_le _)) (rspok_e _ _) (rsz_e _ _) (by decide) (by decide) (by decide) (by decide) (by decide) (fun x hx => by cases hx))) rfl rfl rfl rfl rfl ?_
 rintro v w29 ⟨A125, c125, rfl, ho125, he125⟩
 replace hE := hE.tr he125
 replace hc20 := hc20.ext he125
 have hz_he125 := he125.size
 refine wl_gval (ov_len Tryz.underlying32 rfl) rfl rfl rfl rfl rfl ?_
 refine wl_gval (ov_neq rfl rfl) rfl rfl rfl rfl rfl ?_
 refine wl_spell (d := 127) rfl (bf (by rw [kn13.2]; exact fun q => q rfl)) ?_
 refine wl_val (ov_pick_f rfl rfl) rfl rfl rfl ?_
 refine q_nil (k_then ?_)
 refine wc_cond_f rfl ?_
 refine q_skip (k_then (wc_seq (wc_seq (wc_regionL ?_))))
 refine vm rfl rfl ?_
 have hP20 : ∀ x ∈ S20, ((L20 ≤ x ∧ x < H20) ∨ B0 ≤ x) := fun x hx => .inl (hQ20 x hx)
 refine wl_step (or_buildBytes (l := [0, 18, 1]) bt32 (os := [.const (.int .u8 0), .const (.int .u8 18), .const (.int .u8 1)]) rfl rfl rfl (by decide)) rfl rfl rfl ?_
 rintro v w30 ⟨A130, c130, rfl, ho130, he130⟩
 replace hE := hE.tr he130
 replace hc20 := hc20.ext he130
 have hz_he130 := he130.size
 refine wl_step (or_call0 cl29 rfl rfl (lw28_del _ _ S20 a20 a20 kc0 hc20 3 _ _ A130 c130 [0, 18, 1] (OwnB.rd ho130) (fun x hx => by have h1 := hP20 x hx; have h2 := hB_hc20.1 x hx; omega) (by decide) kn14)) rfl rfl rfl ?_
 rintro v w31 ⟨rfl, hto131⟩
 obtain ⟨S131, a131, b131, hc131, hk131, hS131, hab131⟩ := hto131
 replace hc131 : Cnn w31 gn20 S131 a131 b131 kd1 := hc131
 have hz131 := hk131.size
 replace hE := hk131.e0 hE (fun x hx => by have := hP20 x hx; omega)
 have hP131 : ∀ x ∈ S131, ((L20 ≤ x ∧ x < H20) ∨ B0 ≤ x) := fun x hx => (hS131 x hx).elim (fun h => hP20 x h) (fun h => .inr (by omega))
 have hB_hc131 : (∀ x ∈ S131, x < w31.heap.size) ∧ b131 ≤ w31.heap.size := ⟨fun x hx => (hc131.bnd.1 x hx).1, hc131.bnd.2⟩
 refine wl_val (ov_not (b := true) rfl) rfl rfl rfl ?_
 refine vm rfl rfl ?_
 refine wl_gval (ov_move rfl) rfl rfl rfl rfl rfl ?_
 refine wl_gstep (or_call0 cl30 rfl rfl (lw28_steps _ _ S131 a131 b131 kd1 hc131 2 (by decide +kernel) kn15)) rfl rfl rfl rfl rfl ?_
 rintro v w32 ⟨rfl, hto135⟩
 obtain ⟨S135, a135, b135, hc135, hk135, hS135, hab135⟩ := hto135
 replace hc135 : Cnn w32 gn20 S135 a135 b135 kd2 := hc135
 have hz135 := hk135.size
 replace hE := hk135.e0 hE (fun x hx => by have := hP131 x hx; omega)
 have hP135 : ∀ x ∈ S135, ((L20 ≤ x ∧ x < H20) ∨ B0 ≤ x) := fun x hx => (hS135 x hx).elim (fun h => hP131 x h) (fun h => .inr (by omega))
 have hB_hc135 : (∀ x ∈ S135, x < w32.heap.size) ∧ b135 ≤ w32.heap.size := ⟨fun x hx => (hc135.bnd.1 x hx).1, hc135.bnd.2⟩
 refine wl_gval (ov_not (b := true) rfl) rfl rfl rfl rfl rfl ?_
 refine wl_val (ov_pick_f rfl rfl) rfl rfl rfl ?_
 refine vm rfl rfl ?_
 refine wl_gval (ov_move rfl) rfl rfl rfl rfl rfl ?_
 refine wl_gstep (or_call0 cl30 rfl rfl (lw28_steps _ _ S135 a135 b135 kd2 hc135 4 (by decide +kernel) kn16)) rfl rfl rfl rfl rfl ?_
 rintro v w33 ⟨rfl, hto140⟩
 obtain ⟨S140, a140, b140, hc140, hk140, hS140, hab140⟩ := hto140
 replace hc140 : Cnn w33 gn20 S140 a140 b140 kd3 := hc140
 have hz140 := hk140.size
 replace hE := hk140.e0 hE (fun x hx => by have := hP135 x hx; omega)
 have hP140 : ∀ x ∈ S140, ((L20 ≤ x ∧ x < H20) ∨ B0 ≤ x) := fun x hx => (hS140 x hx).elim (fun h => hP135 x h) (fun h => .inr (by omega))
 have hB_hc140 : (∀ x ∈ S140, x < w33.heap.size) ∧ b140 ≤ w33.heap.size := ⟨fun x hx => (hc140.bnd.1 x hx).1, hc140.bnd.2⟩
 refine wl_gval (ov_not (b := true) rfl) rfl rfl rfl rfl rfl ?_
 refine wl_val (ov_pick_f rfl rfl) rfl rfl rfl ?_
 refine vm rfl rfl ?_
 refine wl_gval (ov_move rfl) rfl rfl rfl rfl rfl ?_
 refine wl_gstep (or_call0 cl30 rfl rfl (lw28_steps _ _ S140 a140 b140 kd3 hc140 2 (by decide +kernel) kn17)) rfl rfl rfl rfl rfl ?_
 rintro v w34 ⟨rfl, hto145⟩
 obtain ⟨S145, a145, b145, hc145, hk145, hS145, hab145⟩ := hto145
 replace hc145 : Cnn w34 gn20 S145 a145 b145 kd4 := hc145
 have hz145 := hk145.size
 replace hE := hk145.e0 hE (fun x hx => by have := hP140 x hx; omega)
 have hP145 : ∀ x ∈ S145, ((L20 ≤ x ∧ x < H20) ∨ B0 ≤ x) := fun x hx => (hS145 x hx).elim (fun h => hP140 x h) (fun h => .inr (by omega))
 have hB_hc145 : (∀ x ∈ S145, x < w34.heap.size) ∧ b145 ≤ w34.heap.size := ⟨fun x hx => (hc145.bnd.1 x hx).1, hc145.bnd.2⟩
 refine wl_gval (ov_not (b := true) rfl) rfl rfl rfl rfl rfl ?_
 refine wl_val (ov_pick_f rfl rfl) rfl rfl rfl ?_
 refine vm rfl rfl ?_
 refine wl_gval (ov_move rfl) rfl rfl rfl rfl rfl ?_
 refine wl_gstep (or_call0 cl30 rfl rfl (lw28_steps _ _ S145 a145 b145 kd4 hc145 4 (by decide +kernel) kn18)) rfl rfl rfl rfl rfl ?_
 rintro v w35 ⟨rfl, hto150⟩
 obtain ⟨S150, a150, b150, hc150, hk150, hS150, hab150⟩ := hto150
 replace hc150 : Cnn w35 gn20 S150 a150 b150 kd5 := hc150
 have hz150 := hk150.size
 replace hE := hk150.e0 hE (fun x hx => by have := hP145 x hx; omega)
 have hP150 : ∀ x ∈ S150, ((L20 ≤ x ∧ x < H20) ∨ B0 ≤ x) := fun x hx => (hS150 x hx).elim (fun h => hP145 x h) (fun h => .inr (by omega))
 have hB_hc150 : (∀ x ∈ S150, x < w35.heap.size) ∧ b150 ≤ w35.heap.size := ⟨fun x hx => (hc150.bnd.1 x hx).1, hc150.bnd.2⟩
 refine wl_gval (ov_not (b := true) rfl) rfl rfl rfl rfl rfl ?_
 refine wl_val (ov_pick_f rfl rfl) rfl rfl rfl ?_
 refine vm rfl rfl ?_
 refine wl_gval (ov_move rfl) rfl rfl rfl rfl rfl ?_
 refine wl_gstep (or_call0 cl25 rfl rfl (lcphase _ _ S150 a150 b150 kd5 hc150)) rfl rfl rfl rfl rfl ?_
 rintro v w36 ⟨rfl, he155⟩
 replace hE := hE.tr he155
 replace hc150 := hc150.ext he155
 have hz_he155 := he155.size
 refine wl_spell (d := 155) rfl (v' := (.int .i64 4)) (by rw [kn19]; rfl) ?_
 refine wl_gval (ov_neq rfl rfl) rfl rfl rfl rfl rfl ?_
 refine wl_val (ov_pick_f rfl rfl) rfl rfl rfl ?_
 refine q_nil (k_then ?_)
 refine wc_cond_f rfl ?_
 refine q_skip (k_then (wc_seq (wc_regionL ?_)))
 refine vm rfl rfl ?_
 refine wl_step (or_buildBytes (l := [1]) bt32 (os := [.const (.int .u8 1)]) rfl rfl rfl (by decide)) rfl rfl rfl ?_
 rintro v w37 ⟨A160, c160, rfl, ho160, he160⟩
 replace hE := hE.tr he160
 replace hc150 := hc150.ext he160
 have hz_he160 := he160.size
 refine wl_step (or_call0 cl16 rfl rfl (lcdel _ _ S150 a150 b150 kd5 hc150 _ _ A160 c160 [1] (OwnB.rd ho160) (fun x hx => by have h1 := hP150 x hx; have h2 := hB_hc150.1 x hx; omega) (by decide))) rfl rfl rfl ?_
 rintro v w38 ⟨rfl, hto161⟩
 obtain ⟨S161, a161, b161, hc161, hk161, hS161, hab161⟩ := hto161
 replace hc161 : Cnn w38 gn20 S161 a161 b161 kd6 := hc161
 have hz161 := hk161.size
 replace hE := hk161.e0 hE (fun x hx => by have := hP150 x hx; omega)
 have hP161 : ∀ x ∈ S161, ((L20 ≤ x ∧ x < H20) ∨ B0 ≤ x) := fun x hx => (hS161 x hx).elim (fun h => hP150 x h) (fun h => .inr (by omega))
 have hB_hc161 : (∀ x ∈ S161, x < w38.heap.size) ∧ b161 ≤ w38.heap.size := ⟨fun x hx => (hc161.bnd.1 x hx).1, hc161.bnd.2⟩
 refine vm rfl rfl ?_
 iterate 2 refine vx rfl rfl rfl ?_
 refine va rfl rfl ?_
 refine q_nil (k_then (wc_seq (wc_regionL ?_)))
 refine wl_val (ov_build (cs := [(.int .i64 23), (.int .i64 64), (.int .i64 16)]) ze23 pl23 rfl rfl) rfl rfl rfl ?_
 refine wl_step (or_call0 cl11 rfl rfl (cnew_bad _ 23 64 16 (by decide) (by decide) (by decide) (by decide) (by decide) (by decide) (by decide))) rfl rfl rfl ?_
 rintro v w39 ⟨rfl, he166⟩
 replace hE := hE.tr he166
 replace hc161 := hc161.ext he166
 have hz_he166 := he166.size
 refine vm rfl rfl ?_
 iterate 2 refine vx rfl rfl rfl ?_
 iterate 2 refine va rfl rfl ?_
 refine q_nil (k_then (wc_seq (wc_regionL ?_)))
 refine vm rfl rfl ?_
 refine ve rfl rfl rfl ?_
 refine wl_spell (d := 170) rfl (bt (by rw [kn20]; rfl)) ?_
 refine vm rfl rfl ?_
 refine wl_gval (ov_move rfl) rfl rfl rfl rfl rfl ?_
 refine wl_gstep (or_call0 cl30 rfl rfl (lw28_steps _ _ S161 a161 b161 kd6 hc161 0 (by decide +kernel) kn21)) rfl rfl rfl rfl rfl ?_
 rintro v w40 ⟨rfl, hto173⟩
 obtain ⟨S173, a173, b173, hc173, hk173, hS173, hab173⟩ := hto173
 replace hc173 : Cnn w40 gn20 S173 a173 b173 kd7 := hc173
 have hz173 := hk173.size
 replace hE := hk173.e0 hE (fun x hx => by have := hP161 x hx; omega)
 have hP173 : ∀ x ∈ S173, ((L20 ≤ x ∧ x < H20) ∨ B0 ≤ x) := fun x hx => (hS173 x hx).elim (fun h => hP161 x h) (fun h => .inr (by omega))
 have hB_hc173 : (∀ x ∈ S173, x < w40.heap.size) ∧ b173 ≤ w40.heap.size := ⟨fun x hx => (hc173.bnd.1 x hx).1, hc173.bnd.2⟩
 refine wl_val (ov_pick_t rfl rfl) rfl rfl rfl ?_
 refine vm rfl rfl ?_
 refine wl_gval (ov_move rfl) rfl rfl rfl rfl rfl ?_
 refine wl_gval (ov_nilptr Tryz.underlying28 rfl) rfl rfl rfl rfl rfl ?_
 refine wl_val (ov_pick_t rfl rfl) rfl rfl rfl ?_
 refine vm rfl rfl ?_
 refine wl_gval (ov_move rfl) rfl rfl rfl rfl rfl ?_
 refine wl_gval (ov_eql rfl rfl) rfl rfl rfl rfl rfl ?_
 refine wl_val (ov_pick_t rfl rfl) rfl rfl rfl ?_
 refine va rfl rfl ?_
 refine q_nil (k_then (q_ret ?_))
 refine e_ret rfl rfl ?_
 exact ⟨rfl, hE⟩
end Go.Proofs.YtiighkbehiddkaaGreat