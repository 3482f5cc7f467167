/-
  The contracts of the checks that the laws of layer 4 are made of.
-/
import Derived.Test.YtfniipfdpoeapaaRr
namespace Go.Proofs.Ytfniipfdpoeapaa
open Go.RowKit
set_option linter.unusedVariables false
theorem cl25 : callable Try.prog 25 = true := by kernel_rfl
theorem cl26 : callable Try.prog 26 = true := by kernel_rfl
theorem cl30 : callable Try.prog 30 = true := by kernel_rfl
theorem cl32 : callable Try.prog 32 = true := by kernel_rfl
theorem cl34 : callable Try.prog 34 = true := by kernel_rfl
theorem cl35 : callable Try.prog 35 = true := by kernel_rfl
theorem cl36 : callable Try.prog 36 = true := by kernel_rfl
theorem cl37 : callable Try.prog 37 = true := by kernel_rfl
theorem cl38 : callable Try.prog 38 = true := by kernel_rfl
theorem cl40 : callable Try.prog 40 = true := by kernel_rfl
theorem cl47 : callable Try.prog 47 = true := by kernel_rfl
theorem cl48 : callable Try.prog 48 = true := by kernel_rfl
theorem cl49 : callable Try.prog 49 = true := by kernel_rfl
theorem mixed : Try.prog.follows .mixedOrders = true := by kernel_rfl

theorem lget_any (w : World) (lo hi : Nat) (A : Option Addr) (c : Nat) (l : List UInt8) (n s e : Int) (hr : RdB w lo hi A c l) (h1 : n = ((vget l).1 : Int)) (h2 : s = ((vget l).2.1 : Int)) (h3 : e = ((vget l).2.2 : Int)) :
    Fn Try.prog 30 #[(.slice A l.length c), (.int .u64 n), (.int .i64 s), (.int .i64 e)] w (fun v w' => v = .bool true ∧ w' = w) := by
  refine fn_enter (args := [(.slice A l.length c), (.int .u64 n), (.int .i64 s), (.int .i64 e)]) Try.func30 rfl rfl rfl ?_
  show WC _ _ _ _ [(0, (.slice A l.length c)), (1, (.int .u64 n)), (2, (.int .i64 s)), (3, (.int .i64 e))] _
  refine wc_seq ?_
  refine wc_regionL ?_
  refine wl_val (ov_assign rfl) rfl rfl rfl ?_
  refine q_nil ?_
  refine k_then ?_
  refine wc_seq ?_
  refine wc_regionL ?_
  refine wl_val (ov_move rfl) rfl rfl rfl ?_
  refine wl_val (or_call0 cl39 rfl rfl (get_any _ _ _ _ _ l hr)) rfl rfl rfl ?_
  refine wl_val (ov_move rfl) rfl rfl rfl ?_
  refine wl_val (ov_extract rfl rfl) rfl rfl rfl ?_
  refine wl_val (ov_extract rfl rfl) rfl rfl rfl ?_
  refine wl_val (ov_extract rfl rfl) rfl rfl rfl ?_
  refine wl_val (ov_assign rfl) rfl rfl rfl ?_
  refine wl_val (ov_assign rfl) rfl rfl rfl ?_
  refine wl_val (ov_assign rfl) rfl rfl rfl ?_
  refine q_nil ?_
  refine k_then ?_
  refine wc_seq ?_
  refine wc_regionL ?_
  refine wl_val (ov_move rfl) rfl rfl rfl ?_
  refine wl_val (ov_move rfl) rfl rfl rfl ?_
  refine wl_val (ov_eql rfl rfl) rfl rfl rfl ?_
  refine wl_spell (d := 20) rfl (bt (h1.symm)) ?_
  refine wl_val (ov_move rfl) rfl rfl rfl ?_
  refine wl_gval (ov_move rfl) rfl rfl rfl rfl rfl ?_
  refine wl_gval (ov_move rfl) rfl rfl rfl rfl rfl ?_
  refine wl_gval (ov_eql rfl rfl) rfl rfl rfl rfl rfl ?_
  refine wl_spell (d := 24) rfl (bt (h2.symm)) ?_
  refine wl_val (ov_pick_t rfl rfl) rfl rfl rfl ?_
  refine wl_val (ov_move rfl) rfl rfl rfl ?_
  refine wl_gval (ov_move rfl) rfl rfl rfl rfl rfl ?_
  refine wl_gval (ov_move rfl) rfl rfl rfl rfl rfl ?_
  refine wl_gval (ov_eql rfl rfl) rfl rfl rfl rfl rfl ?_
  refine wl_spell (d := 29) rfl (bt (h3.symm)) ?_
  refine wl_val (ov_pick_t rfl rfl) rfl rfl rfl ?_
  refine wl_val (ov_assign rfl) rfl rfl rfl ?_
  refine q_nil ?_
  refine k_then ?_
  refine q_ret ?_
  refine e_ret rfl rfl ?_
  exact ⟨rfl, rfl⟩

theorem lpart_any (w : World) (lo hi : Nat) (A : Option Addr) (c : Nat) (l : List UInt8) (most : Int) (hm : most ≤ 9223372036854775807) (p : List UInt8) (s e : Int) (hr : RdB w lo hi A c l) (hlen : l.length ≤ 140737488355328) (h1 : p = (vpart l most).1) (h2 : s = ((vpart l most).2.1 : Int)) (h3 : e = ((vpart l most).2.2 : Int)) :
    Fn Try.prog 32 #[(.slice A l.length c), (.int .i64 most), (.string (strB p)), (.int .i64 s), (.int .i64 e)] w (fun v w' => v = .bool true ∧ Ext w w') := by
  have hE := ext_refl w
  refine fn_enter (args := [(.slice A l.length c), (.int .i64 most), (.string (strB p)), (.int .i64 s), (.int .i64 e)]) Try.func32 rfl rfl rfl ?_
  show WC _ _ _ _ [(0, (.slice A l.length c)), (1, (.int .i64 most)), (2, (.string (strB p))), (3, (.int .i64 s)), (4, (.int .i64 e))] _
  refine wc_seq ?_
  refine wc_regionL ?_
  refine wl_val (ov_assign rfl) rfl rfl rfl ?_
  refine q_nil ?_
  refine k_then ?_
  refine wc_seq ?_
  refine wc_regionL ?_
  refine wl_val (ov_move rfl) rfl rfl rfl ?_
  refine wl_val (ov_move rfl) rfl rfl rfl ?_
  refine wl_step (or_call0 cl33 rfl rfl (getbytes_any _ _ _ _ _ l most (by omega) hr (by omega))) rfl rfl rfl ?_
  rintro v w1 ⟨A17, c17, rfl, ho17, he17⟩
  replace hr := hr.ext he17
  replace hE := hE.tr he17
  have hz_he17 := he17.size
  have hq_ho17 := fun g e => Own.lt ho17 (g := g) e
  refine wl_val (ov_move rfl) rfl rfl rfl ?_
  refine wl_val (ov_extract rfl rfl) rfl rfl rfl ?_
  refine wl_val (ov_extract rfl rfl) rfl rfl rfl ?_
  refine wl_val (ov_extract rfl rfl) rfl rfl rfl ?_
  refine wl_val (ov_assign rfl) rfl rfl rfl ?_
  refine wl_val (ov_assign rfl) rfl rfl rfl ?_
  refine wl_val (ov_assign rfl) rfl rfl rfl ?_
  refine q_nil ?_
  refine k_then ?_
  refine wc_seq ?_
  refine wc_regionL ?_
  refine wl_val (ov_move rfl) rfl rfl rfl ?_
  refine wl_val (ov_bstr bt22 Try.underlying9 rfl (OwnB.rd ho17)) rfl rfl rfl ?_
  refine wl_val (ov_move rfl) rfl rfl rfl ?_
  refine wl_val (ov_seq rfl rfl) rfl rfl rfl ?_
  refine wl_spell (d := 24) rfl (bt (h1.symm)) ?_
  refine wl_val (ov_move rfl) rfl rfl rfl ?_
  refine wl_gval (ov_move rfl) rfl rfl rfl rfl rfl ?_
  refine wl_gval (ov_move rfl) rfl rfl rfl rfl rfl ?_
  refine wl_gval (ov_eql rfl rfl) rfl rfl rfl rfl rfl ?_
  refine wl_spell (d := 28) rfl (bt (h2.symm)) ?_
  refine wl_val (ov_pick_t rfl rfl) rfl rfl rfl ?_
  refine wl_val (ov_move rfl) rfl rfl rfl ?_
  refine wl_gval (ov_move rfl) rfl rfl rfl rfl rfl ?_
  refine wl_gval (ov_move rfl) rfl rfl rfl rfl rfl ?_
  refine wl_gval (ov_eql rfl rfl) rfl rfl rfl rfl rfl ?_
  refine wl_spell (d := 33) rfl (bt (h3.symm)) ?_
  refine wl_val (ov_pick_t rfl rfl) rfl rfl rfl ?_
  refine wl_val (ov_assign rfl) rfl rfl rfl ?_
  refine q_nil ?_
  refine k_then ?_
  refine q_ret ?_
  refine e_ret rfl rfl ?_
  exact ⟨rfl, hE⟩

theorem lput_any (w : World) (lo hi : Nat) (A : Option Addr) (c : Nat) (l : List UInt8) (n : Nat) (B : Option Addr) (c2 : Nat) (m : List UInt8) (lo2 hi2 : Nat) (hr : RdB w lo hi A c l) (hr2 : RdB w lo2 hi2 B c2 m) (hlen : l.length ≤ 140737488350000) (hn : n < 18446744073709551616) (h1 : l ++ enc n = m) :
    Fn Try.prog 40 #[(.slice A l.length c), (.int .u64 (↑n : Int)), (.slice B m.length c2)] w (fun v w' => v = .bool true ∧ Ext w w') := by
  replace hr := hr.top
  replace hr2 := hr2.top
  have hE := ext_refl w
  refine fn_enter (args := [(.slice A l.length c), (.int .u64 (↑n : Int)), (.slice B m.length c2)]) Try.func40 rfl rfl rfl ?_
  show WC _ _ _ _ [(0, (.slice A l.length c)), (1, (.int .u64 (↑n : Int))), (2, (.slice B m.length c2))] _
  refine wc_seq ?_
  refine wc_regionL ?_
  refine wl_val (ov_assign rfl) rfl rfl rfl ?_
  refine q_nil ?_
  refine k_then ?_
  refine wc_seq ?_
  refine wc_draw mixed 6 [(7, eqv (.slice A l.length c)), (8, eqv (.int .u64 (↑n : Int))), (9, isOwnB w.heap.size 5 (l ++ enc (n))), (10, eqv (.string (strB (l ++ enc (n))))), (11, eqv (.slice B m.length c2)), (12, eqv (.string (strB m)))] [[], [], [0, 1], [2], [], [4]] (by kernel_rfl) rfl ⟨stb_eqv _, stb_eqv _, stb_isOwnB _ _ _, stb_eqv _, stb_eqv _, stb_eqv _, trivial⟩ ⟨?_, ?_, ?_, ?_, ?_, ?_, trivial⟩ ?_
  · intro wd hxE
    replace hr := hr.ext hxE
    replace hr2 := hr2.ext hxE
    replace hE := hE.tr hxE
    have hz_hxE := hxE.size
    show OpG _ _ _ _ _ _
    exact og_plain rfl (ox_val (ov_move rfl))
  · intro wd hxE
    replace hr := hr.ext hxE
    replace hr2 := hr2.ext hxE
    replace hE := hE.tr hxE
    have hz_hxE := hxE.size
    show OpG _ _ _ _ _ _
    exact og_plain rfl (ox_val (ov_move rfl))
  · intro wd hxE
    replace hr := hr.ext hxE
    replace hr2 := hr2.ext hxE
    replace hE := hE.tr hxE
    have hz_hxE := hxE.size
    rintro _ rfl
    rintro _ rfl
    show OpG _ _ _ _ _ _
    refine og_plain rfl (OpRun.mono (or_call0 cl24 rfl rfl (put_any _ _ _ _ _ l (n) hr (by omega) (by omega))) ?_)
    rintro v w1 ⟨A9, c9, rfl, ho9, he9⟩
    replace hr := hr.ext he9
    replace hr2 := hr2.ext he9
    replace hE := hE.tr he9
    have hz_he9 := he9.size
    have hq_ho9 := fun g e => Own.lt ho9 (g := g) e
    exact ⟨⟨A9, c9, rfl, Own.mono ho9 (by omega)⟩, he9⟩
  · intro wd hxE
    replace hr := hr.ext hxE
    replace hr2 := hr2.ext hxE
    replace hE := hE.tr hxE
    have hz_hxE := hxE.size
    rintro _ ⟨A9, c9, rfl, ho9⟩
    show OpG _ _ _ _ _ _
    exact og_plain rfl (ox_val (ov_bstr bt22 Try.underlying9 rfl (OwnB.rd ho9)))
  · intro wd hxE
    replace hr := hr.ext hxE
    replace hr2 := hr2.ext hxE
    replace hE := hE.tr hxE
    have hz_hxE := hxE.size
    show OpG _ _ _ _ _ _
    exact og_plain rfl (ox_val (ov_move rfl))
  · intro wd hxE
    replace hr := hr.ext hxE
    replace hr2 := hr2.ext hxE
    replace hE := hE.tr hxE
    have hz_hxE := hxE.size
    rintro _ rfl
    show OpG _ _ _ _ _ _
    exact og_plain rfl (ox_val (ov_bstr bt22 Try.underlying9 rfl hr2))
  · intro wf1 hf1
    replace hr := hr.ext hf1
    replace hr2 := hr2.ext hf1
    replace hE := hE.tr hf1
    have hz_hf1 := hf1.size
    rintro _ rfl
    rintro _ rfl
    rintro _ ⟨A9, c9, rfl, ho9⟩
    rintro _ rfl
    rintro _ rfl
    rintro _ rfl
    show WL _ _ _ [_, _] _ _ _
    refine wl_val (ov_seq rfl rfl) rfl rfl rfl ?_
    refine wl_spell (d := 13) rfl (bt (h1)) ?_
    refine wl_val (ov_assign rfl) rfl rfl rfl ?_
    refine q_nil ?_
    refine k_then ?_
    refine q_ret ?_
    refine e_ret rfl rfl ?_
    exact ⟨rfl, hE⟩

theorem lnum_ok (w : World) (g lo hi : Nat) (A : Option Addr) (c : Nat) (l : List UInt8) (hb_g : Blk w g 72 [.bool true, .slice A l.length c]) (hr : RdB w lo hi A c l) (hne : g < lo ∨ hi ≤ g) (hlen : l.length ≤ 140737488355328) (n e : Int) (h1 : n = ((vget l).1 : Int)) (h2 : e = ((vget l).2.2 : Int)) :
    Fn Try.prog 35 #[(.pointer (some ⟨g, 0, none⟩)), (.int .u64 n), (.int .i64 e)] w (fun v w' => v = .bool true ∧ RdrStep w w' g lo hi (l.drop (vget l).2.1)) := by
  have hG := (ext_refl w).row (some g)
  have hgl := hb_g.lt
  have hs := vget_size l
  have hn := vget_lt l
  have hcap := RdB.cap hr
  refine fn_enter (args := [(.pointer (some ⟨g, 0, none⟩)), (.int .u64 n), (.int .i64 e)]) Try.func35 rfl rfl rfl ?_
  show WC _ _ _ _ [(0, (.pointer (some ⟨g, 0, none⟩))), (1, (.int .u64 n)), (2, (.int .i64 e))] _
  refine wc_seq ?_
  refine wc_regionL ?_
  refine wl_val (ov_assign rfl) rfl rfl rfl ?_
  refine q_nil ?_
  refine k_then ?_
  refine wc_seq ?_
  refine wc_regionL ?_
  refine wl_val (ov_move rfl) rfl rfl rfl ?_
  refine wl_step (or_call0 cl47 rfl rfl (number_ok _ g lo hi A c l hb_g hr hne hlen)) rfl rfl rfl ?_
  rintro v w1 ⟨rfl, hst⟩
  refine wl_val (ov_move rfl) rfl rfl rfl ?_
  refine wl_val (ov_extract rfl rfl) rfl rfl rfl ?_
  refine wl_val (ov_extract rfl rfl) rfl rfl rfl ?_
  refine wl_val (ov_assign rfl) rfl rfl rfl ?_
  refine wl_val (ov_assign rfl) rfl rfl rfl ?_
  refine q_nil ?_
  refine k_then ?_
  refine wc_seq ?_
  refine wc_regionL ?_
  refine wl_val (ov_move rfl) rfl rfl rfl ?_
  refine wl_val (ov_move rfl) rfl rfl rfl ?_
  refine wl_val (ov_eql rfl rfl) rfl rfl rfl ?_
  refine wl_spell (d := 16) rfl (bt (h1.symm)) ?_
  refine wl_val (ov_move rfl) rfl rfl rfl ?_
  refine wl_gval (ov_move rfl) rfl rfl rfl rfl rfl ?_
  refine wl_gval (ov_move rfl) rfl rfl rfl rfl rfl ?_
  refine wl_gval (ov_eql rfl rfl) rfl rfl rfl rfl rfl ?_
  refine wl_spell (d := 20) rfl (bt (h2.symm)) ?_
  refine wl_val (ov_pick_t rfl rfl) rfl rfl rfl ?_
  refine wl_val (ov_assign rfl) rfl rfl rfl ?_
  refine q_nil ?_
  refine k_then ?_
  refine q_ret ?_
  refine e_ret rfl rfl ?_
  exact ⟨rfl, hst⟩

theorem lnum_zero (w : World) (g : Nat) (hb_g : Blk w g 72 [.bool false, .slice none 0 0]) (n e : Int) (h1 : n = 0) (h2 : e = 1) :
    Fn Try.prog 35 #[(.pointer (some ⟨g, 0, none⟩)), (.int .u64 n), (.int .i64 e)] w (fun v w' => v = .bool true ∧ w' = w) := by
  have hE := ext_refl w
  refine fn_enter (args := [(.pointer (some ⟨g, 0, none⟩)), (.int .u64 n), (.int .i64 e)]) Try.func35 rfl rfl rfl ?_
  show WC _ _ _ _ [(0, (.pointer (some ⟨g, 0, none⟩))), (1, (.int .u64 n)), (2, (.int .i64 e))] _
  refine wc_seq ?_
  refine wc_regionL ?_
  refine wl_val (ov_assign rfl) rfl rfl rfl ?_
  refine q_nil ?_
  refine k_then ?_
  refine wc_seq ?_
  refine wc_regionL ?_
  refine wl_val (ov_move rfl) rfl rfl rfl ?_
  refine wl_val (or_call0 cl47 rfl rfl (number_zero _ g hb_g)) rfl rfl rfl ?_
  refine wl_val (ov_move rfl) rfl rfl rfl ?_
  refine wl_val (ov_extract rfl rfl) rfl rfl rfl ?_
  refine wl_val (ov_extract rfl rfl) rfl rfl rfl ?_
  refine wl_val (ov_assign rfl) rfl rfl rfl ?_
  refine wl_val (ov_assign rfl) rfl rfl rfl ?_
  refine q_nil ?_
  refine k_then ?_
  refine wc_seq ?_
  refine wc_regionL ?_
  refine wl_val (ov_move rfl) rfl rfl rfl ?_
  refine wl_val (ov_move rfl) rfl rfl rfl ?_
  refine wl_val (ov_eql rfl rfl) rfl rfl rfl ?_
  refine wl_spell (d := 16) rfl (bt (h1.symm)) ?_
  refine wl_val (ov_move rfl) rfl rfl rfl ?_
  refine wl_gval (ov_move rfl) rfl rfl rfl rfl rfl ?_
  refine wl_gval (ov_move rfl) rfl rfl rfl rfl rfl ?_
  refine wl_gval (ov_eql rfl rfl) rfl rfl rfl rfl rfl ?_
  refine wl_spell (d := 20) rfl (bt (h2.symm)) ?_
  refine wl_val (ov_pick_t rfl rfl) rfl rfl rfl ?_
  refine wl_val (ov_assign rfl) rfl rfl rfl ?_
  refine q_nil ?_
  refine k_then ?_
  refine q_ret ?_
  refine e_ret rfl rfl ?_
  exact ⟨rfl, rfl⟩

theorem lnum_nil (w : World) (n e : Int) (h1 : n = 0) (h2 : e = 1) :
    Fn Try.prog 35 #[(.pointer none), (.int .u64 n), (.int .i64 e)] w (fun v w' => v = .bool true ∧ w' = w) := by
  have hE := ext_refl w
  refine fn_enter (args := [(.pointer none), (.int .u64 n), (.int .i64 e)]) Try.func35 rfl rfl rfl ?_
  show WC _ _ _ _ [(0, (.pointer none)), (1, (.int .u64 n)), (2, (.int .i64 e))] _
  refine wc_seq ?_
  refine wc_regionL ?_
  refine wl_val (ov_assign rfl) rfl rfl rfl ?_
  refine q_nil ?_
  refine k_then ?_
  refine wc_seq ?_
  refine wc_regionL ?_
  refine wl_val (ov_move rfl) rfl rfl rfl ?_
  refine wl_val (or_call0 cl47 rfl rfl (number_nil _)) rfl rfl rfl ?_
  refine wl_val (ov_move rfl) rfl rfl rfl ?_
  refine wl_val (ov_extract rfl rfl) rfl rfl rfl ?_
  refine wl_val (ov_extract rfl rfl) rfl rfl rfl ?_
  refine wl_val (ov_assign rfl) rfl rfl rfl ?_
  refine wl_val (ov_assign rfl) rfl rfl rfl ?_
  refine q_nil ?_
  refine k_then ?_
  refine wc_seq ?_
  refine wc_regionL ?_
  refine wl_val (ov_move rfl) rfl rfl rfl ?_
  refine wl_val (ov_move rfl) rfl rfl rfl ?_
  refine wl_val (ov_eql rfl rfl) rfl rfl rfl ?_
  refine wl_spell (d := 16) rfl (bt (h1.symm)) ?_
  refine wl_val (ov_move rfl) rfl rfl rfl ?_
  refine wl_gval (ov_move rfl) rfl rfl rfl rfl rfl ?_
  refine wl_gval (ov_move rfl) rfl rfl rfl rfl rfl ?_
  refine wl_gval (ov_eql rfl rfl) rfl rfl rfl rfl rfl ?_
  refine wl_spell (d := 20) rfl (bt (h2.symm)) ?_
  refine wl_val (ov_pick_t rfl rfl) rfl rfl rfl ?_
  refine wl_val (ov_assign rfl) rfl rfl rfl ?_
  refine q_nil ?_
  refine k_then ?_
  refine q_ret ?_
  refine e_ret rfl rfl ?_
  exact ⟨rfl, rfl⟩

theorem lone_ok (w : World) (g lo hi : Nat) (A : Option Addr) (c : Nat) (l : List UInt8) (hb_g : Blk w g 72 [.bool true, .slice A l.length c]) (hr : RdB w lo hi A c l) (hne : g < lo ∨ hi ≤ g) (hlen : l.length ≤ 140737488355328) (n e : Int) (h1 : n = ((vbyte l).1 : Int)) (h2 : e = ((vbyte l).2.2 : Int)) :
    Fn Try.prog 36 #[(.pointer (some ⟨g, 0, none⟩)), (.int .u8 n), (.int .i64 e)] w (fun v w' => v = .bool true ∧ RdrStep w w' g lo hi (l.drop (vbyte l).2.1)) := by
  have hG := (ext_refl w).row (some g)
  have hgl := hb_g.lt
  have hs := vget_size l
  have hn := vget_lt l
  have hcap := RdB.cap hr
  refine fn_enter (args := [(.pointer (some ⟨g, 0, none⟩)), (.int .u8 n), (.int .i64 e)]) Try.func36 rfl rfl rfl ?_
  show WC _ _ _ _ [(0, (.pointer (some ⟨g, 0, none⟩))), (1, (.int .u8 n)), (2, (.int .i64 e))] _
  refine wc_seq ?_
  refine wc_regionL ?_
  refine wl_val (ov_assign rfl) rfl rfl rfl ?_
  refine q_nil ?_
  refine k_then ?_
  refine wc_seq ?_
  refine wc_regionL ?_
  refine wl_val (ov_move rfl) rfl rfl rfl ?_
  refine wl_step (or_call0 cl48 rfl rfl (rbyte_ok _ g lo hi A c l hb_g hr hne hlen)) rfl rfl rfl ?_
  rintro v w1 ⟨rfl, hst⟩
  refine wl_val (ov_move rfl) rfl rfl rfl ?_
  refine wl_val (ov_extract rfl rfl) rfl rfl rfl ?_
  refine wl_val (ov_extract rfl rfl) rfl rfl rfl ?_
  refine wl_val (ov_assign rfl) rfl rfl rfl ?_
  refine wl_val (ov_assign rfl) rfl rfl rfl ?_
  refine q_nil ?_
  refine k_then ?_
  refine wc_seq ?_
  refine wc_regionL ?_
  refine wl_val (ov_move rfl) rfl rfl rfl ?_
  refine wl_val (ov_move rfl) rfl rfl rfl ?_
  refine wl_val (ov_eql rfl rfl) rfl rfl rfl ?_
  refine wl_spell (d := 16) rfl (bt (h1.symm)) ?_
  refine wl_val (ov_move rfl) rfl rfl rfl ?_
  refine wl_gval (ov_move rfl) rfl rfl rfl rfl rfl ?_
  refine wl_gval (ov_move rfl) rfl rfl rfl rfl rfl ?_
  refine wl_gval (ov_eql rfl rfl) rfl rfl rfl rfl rfl ?_
  refine wl_spell (d := 20) rfl (bt (h2.symm)) ?_
  refine wl_val (ov_pick_t rfl rfl) rfl rfl rfl ?_
  refine wl_val (ov_assign rfl) rfl rfl rfl ?_
  refine q_nil ?_
  refine k_then ?_
  refine q_ret ?_
  refine e_ret rfl rfl ?_
  exact ⟨rfl, hst⟩

theorem lone_zero (w : World) (g : Nat) (hb_g : Blk w g 72 [.bool false, .slice none 0 0]) (n e : Int) (h1 : n = 0) (h2 : e = 1) :
    Fn Try.prog 36 #[(.pointer (some ⟨g, 0, none⟩)), (.int .u8 n), (.int .i64 e)] w (fun v w' => v = .bool true ∧ w' = w) := by
  have hE := ext_refl w
  refine fn_enter (args := [(.pointer (some ⟨g, 0, none⟩)), (.int .u8 n), (.int .i64 e)]) Try.func36 rfl rfl rfl ?_
  show WC _ _ _ _ [(0, (.pointer (some ⟨g, 0, none⟩))), (1, (.int .u8 n)), (2, (.int .i64 e))] _
  refine wc_seq ?_
  refine wc_regionL ?_
  refine wl_val (ov_assign rfl) rfl rfl rfl ?_
  refine q_nil ?_
  refine k_then ?_
  refine wc_seq ?_
  refine wc_regionL ?_
  refine wl_val (ov_move rfl) rfl rfl rfl ?_
  refine wl_val (or_call0 cl48 rfl rfl (rbyte_zero _ g hb_g)) rfl rfl rfl ?_
  refine wl_val (ov_move rfl) rfl rfl rfl ?_
  refine wl_val (ov_extract rfl rfl) rfl rfl rfl ?_
  refine wl_val (ov_extract rfl rfl) rfl rfl rfl ?_
  refine wl_val (ov_assign rfl) rfl rfl rfl ?_
  refine wl_val (ov_assign rfl) rfl rfl rfl ?_
  refine q_nil ?_
  refine k_then ?_
  refine wc_seq ?_
  refine wc_regionL ?_
  refine wl_val (ov_move rfl) rfl rfl rfl ?_
  refine wl_val (ov_move rfl) rfl rfl rfl ?_
  refine wl_val (ov_eql rfl rfl) rfl rfl rfl ?_
  refine wl_spell (d := 16) rfl (bt (h1.symm)) ?_
  refine wl_val (ov_move rfl) rfl rfl rfl ?_
  refine wl_gval (ov_move rfl) rfl rfl rfl rfl rfl ?_
  refine wl_gval (ov_move rfl) rfl rfl rfl rfl rfl ?_
  refine wl_gval (ov_eql rfl rfl) rfl rfl rfl rfl rfl ?_
  refine wl_spell (d := 20) rfl (bt (h2.symm)) ?_
  refine wl_val (ov_pick_t rfl rfl) rfl rfl rfl ?_
  refine wl_val (ov_assign rfl) rfl rfl rfl ?_
  refine q_nil ?_
  refine k_then ?_
  refine q_ret ?_
  refine e_ret rfl rfl ?_
  exact ⟨rfl, rfl⟩

theorem lone_nil (w : World) (n e : Int) (h1 : n = 0) (h2 : e = 1) :
    Fn Try.prog 36 #[(.pointer none), (.int .u8 n), (.int .i64 e)] w (fun v w' => v = .bool true ∧ w' = w) := by
  have hE := ext_refl w
  refine fn_enter (args := [(.pointer none), (.int .u8 n), (.int .i64 e)]) Try.func36 rfl rfl rfl ?_
  show WC _ _ _ _ [(0, (.pointer none)), (1, (.int .u8 n)), (2, (.int .i64 e))] _
  refine wc_seq ?_
  refine wc_regionL ?_
  refine wl_val (ov_assign rfl) rfl rfl rfl ?_
  refine q_nil ?_
  refine k_then ?_
  refine wc_seq ?_
  refine wc_regionL ?_
  refine wl_val (ov_move rfl) rfl rfl rfl ?_
  refine wl_val (or_call0 cl48 rfl rfl (rbyte_nil _)) rfl rfl rfl ?_
  refine wl_val (ov_move rfl) rfl rfl rfl ?_
  refine wl_val (ov_extract rfl rfl) rfl rfl rfl ?_
  refine wl_val (ov_extract rfl rfl) rfl rfl rfl ?_
  refine wl_val (ov_assign rfl) rfl rfl rfl ?_
  refine wl_val (ov_assign rfl) rfl rfl rfl ?_
  refine q_nil ?_
  refine k_then ?_
  refine wc_seq ?_
  refine wc_regionL ?_
  refine wl_val (ov_move rfl) rfl rfl rfl ?_
  refine wl_val (ov_move rfl) rfl rfl rfl ?_
  refine wl_val (ov_eql rfl rfl) rfl rfl rfl ?_
  refine wl_spell (d := 16) rfl (bt (h1.symm)) ?_
  refine wl_val (ov_move rfl) rfl rfl rfl ?_
  refine wl_gval (ov_move rfl) rfl rfl rfl rfl rfl ?_
  refine wl_gval (ov_move rfl) rfl rfl rfl rfl rfl ?_
  refine wl_gval (ov_eql rfl rfl) rfl rfl rfl rfl rfl ?_
  refine wl_spell (d := 20) rfl (bt (h2.symm)) ?_
  refine wl_val (ov_pick_t rfl rfl) rfl rfl rfl ?_
  refine wl_val (ov_assign rfl) rfl rfl rfl ?_
  refine q_nil ?_
  refine k_then ?_
  refine q_ret ?_
  refine e_ret rfl rfl ?_
  exact ⟨rfl, rfl⟩

theorem lbytes_ok (w : World) (g lo hi : Nat) (A : Option Addr) (c : Nat) (l : List UInt8) (hb_g : Blk w g 72 [.bool true, .slice A l.length c]) (hr : RdB w lo hi A c l) (hne : g < lo ∨ hi ≤ g) (hlen : l.length ≤ 140737488355328) (most : Int) (hm : most ≤ 9223372036854775807) (p : List UInt8) (e : Int) (h1 : p = (vpart l most).1) (h2 : e = ((vpart l most).2.2 : Int)) :
    Fn Try.prog 37 #[(.pointer (some ⟨g, 0, none⟩)), (.int .i64 most), (.string (strB p)), (.int .i64 e)] w (fun v w' => v = .bool true ∧ RdrStep w w' g lo hi (l.drop (vpart l most).2.1)) := by
  have hG := (ext_refl w).row (some g)
  have hgl := hb_g.lt
  have hs := vget_size l
  have hn := vget_lt l
  have hcap := RdB.cap hr
  refine fn_enter (args := [(.pointer (some ⟨g, 0, none⟩)), (.int .i64 most), (.string (strB p)), (.int .i64 e)]) Try.func37 rfl rfl rfl ?_
  show WC _ _ _ _ [(0, (.pointer (some ⟨g, 0, none⟩))), (1, (.int .i64 most)), (2, (.string (strB p))), (3, (.int .i64 e))] _
  refine wc_seq ?_
  refine wc_regionL ?_
  refine wl_val (ov_assign rfl) rfl rfl rfl ?_
  refine q_nil ?_
  refine k_then ?_
  refine wc_seq ?_
  refine wc_regionL ?_
  refine wl_val (ov_move rfl) rfl rfl rfl ?_
  refine wl_val (ov_move rfl) rfl rfl rfl ?_
  refine wl_step (or_call0 cl49 rfl rfl (rbytes_ok _ g lo hi A c l hb_g hr hne hlen most hm)) rfl rfl rfl ?_
  rintro v w1 ⟨⟨B, c2, rfl, ho⟩, hst⟩
  refine wl_val (ov_move rfl) rfl rfl rfl ?_
  refine wl_val (ov_extract rfl rfl) rfl rfl rfl ?_
  refine wl_val (ov_extract rfl rfl) rfl rfl rfl ?_
  refine wl_val (ov_assign rfl) rfl rfl rfl ?_
  refine wl_val (ov_assign rfl) rfl rfl rfl ?_
  refine q_nil ?_
  refine k_then ?_
  refine wc_seq ?_
  refine wc_regionL ?_
  refine wl_val (ov_move rfl) rfl rfl rfl ?_
  refine wl_val (ov_bstr bt22 Try.underlying9 rfl (OwnB.rd ho)) rfl rfl rfl ?_
  refine wl_val (ov_move rfl) rfl rfl rfl ?_
  refine wl_val (ov_seq rfl rfl) rfl rfl rfl ?_
  refine wl_spell (d := 20) rfl (bt (h1.symm)) ?_
  refine wl_val (ov_move rfl) rfl rfl rfl ?_
  refine wl_gval (ov_move rfl) rfl rfl rfl rfl rfl ?_
  refine wl_gval (ov_move rfl) rfl rfl rfl rfl rfl ?_
  refine wl_gval (ov_eql rfl rfl) rfl rfl rfl rfl rfl ?_
  refine wl_spell (d := 24) rfl (bt (h2.symm)) ?_
  refine wl_val (ov_pick_t rfl rfl) rfl rfl rfl ?_
  refine wl_val (ov_assign rfl) rfl rfl rfl ?_
  refine q_nil ?_
  refine k_then ?_
  refine q_ret ?_
  refine e_ret rfl rfl ?_
  exact ⟨rfl, hst⟩

theorem lbytes_zero (w : World) (g : Nat) (hb_g : Blk w g 72 [.bool false, .slice none 0 0]) (most : Int) (hm : most ≤ 9223372036854775807) (p : List UInt8) (e : Int) (h1 : p = []) (h2 : e = 1) :
    Fn Try.prog 37 #[(.pointer (some ⟨g, 0, none⟩)), (.int .i64 most), (.string (strB p)), (.int .i64 e)] w (fun v w' => v = .bool true ∧ Ext w w') := by
  have hE := ext_refl w
  refine fn_enter (args := [(.pointer (some ⟨g, 0, none⟩)), (.int .i64 most), (.string (strB p)), (.int .i64 e)]) Try.func37 rfl rfl rfl ?_
  show WC _ _ _ _ [(0, (.pointer (some ⟨g, 0, none⟩))), (1, (.int .i64 most)), (2, (.string (strB p))), (3, (.int .i64 e))] _
  refine wc_seq ?_
  refine wc_regionL ?_
  refine wl_val (ov_assign rfl) rfl rfl rfl ?_
  refine q_nil ?_
  refine k_then ?_
  refine wc_seq ?_
  refine wc_regionL ?_
  refine wl_val (ov_move rfl) rfl rfl rfl ?_
  refine wl_val (ov_move rfl) rfl rfl rfl ?_
  refine wl_step (or_call0 cl49 rfl rfl (rbytes_zero _ g hb_g most hm)) rfl rfl rfl ?_
  rintro v w1 ⟨rfl, he14⟩
  replace hb_g := hb_g.ext he14
  replace hE := hE.tr he14
  have hz_he14 := he14.size
  refine wl_val (ov_move rfl) rfl rfl rfl ?_
  refine wl_val (ov_extract rfl rfl) rfl rfl rfl ?_
  refine wl_val (ov_extract rfl rfl) rfl rfl rfl ?_
  refine wl_val (ov_assign rfl) rfl rfl rfl ?_
  refine wl_val (ov_assign rfl) rfl rfl rfl ?_
  refine q_nil ?_
  refine k_then ?_
  refine wc_seq ?_
  refine wc_regionL ?_
  refine wl_val (ov_move rfl) rfl rfl rfl ?_
  refine wl_val (ov_bstr bt22 Try.underlying9 rfl (RdB.nil _ 0 0)) rfl rfl rfl ?_
  refine wl_val (ov_move rfl) rfl rfl rfl ?_
  refine wl_val (ov_seq rfl rfl) rfl rfl rfl ?_
  refine wl_spell (d := 20) rfl (bt (h1.symm)) ?_
  refine wl_val (ov_move rfl) rfl rfl rfl ?_
  refine wl_gval (ov_move rfl) rfl rfl rfl rfl rfl ?_
  refine wl_gval (ov_move rfl) rfl rfl rfl rfl rfl ?_
  refine wl_gval (ov_eql rfl rfl) rfl rfl rfl rfl rfl ?_
  refine wl_spell (d := 24) rfl (bt (h2.symm)) ?_
  refine wl_val (ov_pick_t rfl rfl) rfl rfl rfl ?_
  refine wl_val (ov_assign rfl) rfl rfl rfl ?_
  refine q_nil ?_
  refine k_then ?_
  refine q_ret ?_
  refine e_ret rfl rfl ?_
  exact ⟨rfl, hE⟩

theorem lbytes_nil (w : World) (most : Int) (hm : most ≤ 9223372036854775807) (p : List UInt8) (e : Int) (h1 : p = []) (h2 : e = 1) :
    Fn Try.prog 37 #[(.pointer none), (.int .i64 most), (.string (strB p)), (.int .i64 e)] w (fun v w' => v = .bool true ∧ Ext w w') := by
  have hE := ext_refl w
  refine fn_enter (args := [(.pointer none), (.int .i64 most), (.string (strB p)), (.int .i64 e)]) Try.func37 rfl rfl rfl ?_
  show WC _ _ _ _ [(0, (.pointer none)), (1, (.int .i64 most)), (2, (.string (strB p))), (3, (.int .i64 e))] _
  refine wc_seq ?_
  refine wc_regionL ?_
  refine wl_val (ov_assign rfl) rfl rfl rfl ?_
  refine q_nil ?_
  refine k_then ?_
  refine wc_seq ?_
  refine wc_regionL ?_
  refine wl_val (ov_move rfl) rfl rfl rfl ?_
  refine wl_val (ov_move rfl) rfl rfl rfl ?_
  refine wl_step (or_call0 cl49 rfl rfl (rbytes_nil _ most hm)) rfl rfl rfl ?_
  rintro v w1 ⟨rfl, he14⟩
  replace hE := hE.tr he14
  have hz_he14 := he14.size
  refine wl_val (ov_move rfl) rfl rfl rfl ?_
  refine wl_val (ov_extract rfl rfl) rfl rfl rfl ?_
  refine wl_val (ov_extract rfl rfl) rfl rfl rfl ?_
  refine wl_val (ov_assign rfl) rfl rfl rfl ?_
  refine wl_val (ov_assign rfl) rfl rfl rfl ?_
  refine q_nil ?_
  refine k_then ?_
  refine wc_seq ?_
  refine wc_regionL ?_
  refine wl_val (ov_move rfl) rfl rfl rfl ?_
  refine wl_val (ov_bstr bt22 Try.underlying9 rfl (RdB.nil _ 0 0)) rfl rfl rfl ?_
  refine wl_val (ov_move rfl) rfl rfl rfl ?_
  refine wl_val (ov_seq rfl rfl) rfl rfl rfl ?_
  refine wl_spell (d := 20) rfl (bt (h1.symm)) ?_
  refine wl_val (ov_move rfl) rfl rfl rfl ?_
  refine wl_gval (ov_move rfl) rfl rfl rfl rfl rfl ?_
  refine wl_gval (ov_move rfl) rfl rfl rfl rfl rfl ?_
  refine wl_gval (ov_eql rfl rfl) rfl rfl rfl rfl rfl ?_
  refine wl_spell (d := 24) rfl (bt (h2.symm)) ?_
  refine wl_val (ov_pick_t rfl rfl) rfl rfl rfl ?_
  refine wl_val (ov_assign rfl) rfl rfl rfl ?_
  refine q_nil ?_
  refine k_then ?_
  refine q_ret ?_
  refine e_ret rfl rfl ?_
  exact ⟨rfl, hE⟩

set_option maxRecDepth 20000 in
set_option maxHeartbeats 1000000 in
theorem known04_any (w : World) :
    Fn Try.prog 23 #[] w (fun v w' => v = .bool true ∧ Ext w w') := by
  have hE := ext_refl w
  refine fn_enter (args := []) Try.func23 rfl rfl rfl ?_
  show WC _ _ _ _ [] _
  refine wc_seq ?_
  refine wc_regionL ?_
  refine wl_val (ov_assign rfl) rfl rfl rfl ?_
  refine q_nil ?_
  refine k_then ?_
  refine wc_seq ?_
  refine wc_seq ?_
  refine wc_regionL ?_
  refine wl_val (or_call0 cl26 rfl rfl (size_any _ 0 (by omega))) rfl rfl rfl ?_
  refine wl_val (ov_neq rfl rfl) rfl rfl rfl ?_
  refine wl_spell (d := 3) rfl (bf (by decide)) ?_
  refine wl_val (ov_move rfl) rfl rfl rfl ?_
  refine wl_gval (or_call0 cl26 rfl rfl (size_any _ 127 (by omega))) rfl rfl rfl rfl rfl ?_
  refine wl_gval (ov_neq rfl rfl) rfl rfl rfl rfl rfl ?_
  refine wl_spell (d := 6) rfl (bf (by decide)) ?_
  refine wl_val (ov_pick_f rfl rfl) rfl rfl rfl ?_
  refine wl_val (ov_move rfl) rfl rfl rfl ?_
  refine wl_gval (or_call0 cl26 rfl rfl (size_any _ 128 (by omega))) rfl rfl rfl rfl rfl ?_
  refine wl_gval (ov_neq rfl rfl) rfl rfl rfl rfl rfl ?_
  refine wl_spell (d := 10) rfl (bf (by decide)) ?_
  refine wl_val (ov_pick_f rfl rfl) rfl rfl rfl ?_
  refine wl_val (ov_move rfl) rfl rfl rfl ?_
  refine wl_gval (or_call0 cl26 rfl rfl (size_any _ 18446744073709551615 (by omega))) rfl rfl rfl rfl rfl ?_
  refine wl_gval (ov_neq rfl rfl) rfl rfl rfl rfl rfl ?_
  refine wl_spell (d := 14) rfl (bf (by decide)) ?_
  refine wl_val (ov_pick_f rfl rfl) rfl rfl rfl ?_
  refine wl_val (ov_move rfl) rfl rfl rfl ?_
  refine wl_gstep (or_buildBytes (l := [172, 2]) bt22 (os := [.const (.int .u8 172), .const (.int .u8 2)]) rfl rfl rfl (by decide)) rfl rfl rfl rfl rfl ?_
  rintro v w1 ⟨A17, c17, rfl, ho17, he17⟩
  replace hE := hE.tr he17
  have hz_he17 := he17.size
  have hq_ho17 := fun g e => Own.lt ho17 (g := g) e
  refine wl_gstep (or_call0 cl40 rfl rfl (lput_any _ _ _ _ _ [] 300 _ _ [172, 2] _ _ (RdB.nil _ 0 0) (OwnB.rd ho17) (by simp) (by omega) (by decide))) rfl rfl rfl rfl rfl ?_
  rintro v w2 ⟨rfl, he18⟩
  replace hE := hE.tr he18
  replace ho17 := Own.ext ho17 he18
  have hz_he18 := he18.size
  refine wl_gval (ov_not (b := true) rfl) rfl rfl rfl rfl rfl ?_
  refine wl_val (ov_pick_f rfl rfl) rfl rfl rfl ?_
  refine wl_val (ov_move rfl) rfl rfl rfl ?_
  refine wl_gstep (or_buildBytes (l := [7]) bt22 (os := [.const (.int .u8 7)]) rfl rfl rfl (by decide)) rfl rfl rfl rfl rfl ?_
  rintro v w3 ⟨A22, c22, rfl, ho22, he22⟩
  replace hE := hE.tr he22
  replace ho17 := Own.ext ho17 he22
  have hz_he22 := he22.size
  have hq_ho22 := fun g e => Own.lt ho22 (g := g) e
  refine wl_gstep (or_buildBytes (l := [7, 0]) bt22 (os := [.const (.int .u8 7), .const (.int .u8 0)]) rfl rfl rfl (by decide)) rfl rfl rfl rfl rfl ?_
  rintro v w4 ⟨A23, c23, rfl, ho23, he23⟩
  replace hE := hE.tr he23
  replace ho17 := Own.ext ho17 he23
  replace ho22 := Own.ext ho22 he23
  have hz_he23 := he23.size
  have hq_ho23 := fun g e => Own.lt ho23 (g := g) e
  refine wl_gstep (or_call0 cl40 rfl rfl (lput_any _ _ _ _ _ [7] 0 _ _ [7, 0] _ _ (OwnB.rd ho22) (OwnB.rd ho23) (by simp) (by omega) (by decide))) rfl rfl rfl rfl rfl ?_
  rintro v w5 ⟨rfl, he24⟩
  replace hE := hE.tr he24
  replace ho17 := Own.ext ho17 he24
  replace ho22 := Own.ext ho22 he24
  replace ho23 := Own.ext ho23 he24
  have hz_he24 := he24.size
  refine wl_gval (ov_not (b := true) rfl) rfl rfl rfl rfl rfl ?_
  refine wl_val (ov_pick_f rfl rfl) rfl rfl rfl ?_
  refine q_nil ?_
  refine k_then ?_
  refine wc_cond_f rfl ?_
  refine q_skip ?_
  refine k_then ?_
  refine wc_seq ?_
  refine wc_seq ?_
  refine wc_regionL ?_
  refine wl_step (or_buildBytes (l := [172, 2, 9]) bt22 (os := [.const (.int .u8 172), .const (.int .u8 2), .const (.int .u8 9)]) rfl rfl rfl (by decide)) rfl rfl rfl ?_
  rintro v w6 ⟨A27, c27, rfl, ho27, he27⟩
  replace hE := hE.tr he27
  replace ho17 := Own.ext ho17 he27
  replace ho22 := Own.ext ho22 he27
  replace ho23 := Own.ext ho23 he27
  have hz_he27 := he27.size
  have hq_ho27 := fun g e => Own.lt ho27 (g := g) e
  refine wl_val (or_call0 cl30 rfl rfl (lget_any _ _ _ _ _ [172, 2, 9] 300 2 0 (OwnB.rd ho27) (by decide) (by decide) (by decide))) rfl rfl rfl ?_
  refine wl_val (ov_not (b := true) rfl) rfl rfl rfl ?_
  refine wl_val (ov_move rfl) rfl rfl rfl ?_
  refine wl_gval (or_call0 cl30 rfl rfl (lget_any _ _ _ _ _ [] 0 0 4 (RdB.nil _ 0 0) (by decide) (by decide) (by decide))) rfl rfl rfl rfl rfl ?_
  refine wl_gval (ov_not (b := true) rfl) rfl rfl rfl rfl rfl ?_
  refine wl_val (ov_pick_f rfl rfl) rfl rfl rfl ?_
  refine wl_val (ov_move rfl) rfl rfl rfl ?_
  refine wl_gstep (or_buildBytes (l := [172]) bt22 (os := [.const (.int .u8 172)]) rfl rfl rfl (by decide)) rfl rfl rfl rfl rfl ?_
  rintro v w7 ⟨A35, c35, rfl, ho35, he35⟩
  replace hE := hE.tr he35
  replace ho17 := Own.ext ho17 he35
  replace ho22 := Own.ext ho22 he35
  replace ho23 := Own.ext ho23 he35
  replace ho27 := Own.ext ho27 he35
  have hz_he35 := he35.size
  have hq_ho35 := fun g e => Own.lt ho35 (g := g) e
  refine wl_gval (or_call0 cl30 rfl rfl (lget_any _ _ _ _ _ [172] 0 0 4 (OwnB.rd ho35) (by decide) (by decide) (by decide))) rfl rfl rfl rfl rfl ?_
  refine wl_gval (ov_not (b := true) rfl) rfl rfl rfl rfl rfl ?_
  refine wl_val (ov_pick_f rfl rfl) rfl rfl rfl ?_
  refine wl_val (ov_move rfl) rfl rfl rfl ?_
  refine wl_gstep (or_buildBytes (l := [128, 0]) bt22 (os := [.const (.int .u8 128), .const (.int .u8 0)]) rfl rfl rfl (by decide)) rfl rfl rfl rfl rfl ?_
  rintro v w8 ⟨A40, c40, rfl, ho40, he40⟩
  replace hE := hE.tr he40
  replace ho17 := Own.ext ho17 he40
  replace ho22 := Own.ext ho22 he40
  replace ho23 := Own.ext ho23 he40
  replace ho27 := Own.ext ho27 he40
  replace ho35 := Own.ext ho35 he40
  have hz_he40 := he40.size
  have hq_ho40 := fun g e => Own.lt ho40 (g := g) e
  refine wl_gval (or_call0 cl30 rfl rfl (lget_any _ _ _ _ _ [128, 0] 0 0 6 (OwnB.rd ho40) (by decide) (by decide) (by decide))) rfl rfl rfl rfl rfl ?_
  refine wl_gval (ov_not (b := true) rfl) rfl rfl rfl rfl rfl ?_
  refine wl_val (ov_pick_f rfl rfl) rfl rfl rfl ?_
  refine wl_val (ov_move rfl) rfl rfl rfl ?_
  refine wl_gstep (or_buildBytes (l := [0]) bt22 (os := [.const (.int .u8 0)]) rfl rfl rfl (by decide)) rfl rfl rfl rfl rfl ?_
  rintro v w9 ⟨A45, c45, rfl, ho45, he45⟩
  replace hE := hE.tr he45
  replace ho17 := Own.ext ho17 he45
  replace ho22 := Own.ext ho22 he45
  replace ho23 := Own.ext ho23 he45
  replace ho27 := Own.ext ho27 he45
  replace ho35 := Own.ext ho35 he45
  replace ho40 := Own.ext ho40 he45
  have hz_he45 := he45.size
  have hq_ho45 := fun g e => Own.lt ho45 (g := g) e
  refine wl_gval (or_call0 cl30 rfl rfl (lget_any _ _ _ _ _ [0] 0 1 0 (OwnB.rd ho45) (by decide) (by decide) (by decide))) rfl rfl rfl rfl rfl ?_
  refine wl_gval (ov_not (b := true) rfl) rfl rfl rfl rfl rfl ?_
  refine wl_val (ov_pick_f rfl rfl) rfl rfl rfl ?_
  refine q_nil ?_
  refine k_then ?_
  refine wc_cond_f rfl ?_
  refine q_skip ?_
  refine k_then ?_
  refine wc_seq ?_
  refine wc_seq ?_
  refine wc_regionL ?_
  refine wl_step (or_buildBytes (l := [255, 255, 255, 255, 255, 255, 255, 255, 255, 1]) bt22 (os := [.const (.int .u8 255), .const (.int .u8 255), .const (.int .u8 255), .const (.int .u8 255), .const (.int .u8 255), .const (.int .u8 255), .const (.int .u8 255), .const (.int .u8 255), .const (.int .u8 255), .const (.int .u8 1)]) rfl rfl rfl (by decide)) rfl rfl rfl ?_
  rintro v w10 ⟨A49, c49, rfl, ho49, he49⟩
  replace hE := hE.tr he49
  replace ho17 := Own.ext ho17 he49
  replace ho22 := Own.ext ho22 he49
  replace ho23 := Own.ext ho23 he49
  replace ho27 := Own.ext ho27 he49
  replace ho35 := Own.ext ho35 he49
  replace ho40 := Own.ext ho40 he49
  replace ho45 := Own.ext ho45 he49
  have hz_he49 := he49.size
  have hq_ho49 := fun g e => Own.lt ho49 (g := g) e
  refine wl_val (or_call0 cl30 rfl rfl (lget_any _ _ _ _ _ [255, 255, 255, 255, 255, 255, 255, 255, 255, 1] 18446744073709551615 10 0 (OwnB.rd ho49) (by decide) (by decide) (by decide))) rfl rfl rfl ?_
  refine wl_val (ov_not (b := true) rfl) rfl rfl rfl ?_
  refine wl_val (ov_move rfl) rfl rfl rfl ?_
  refine wl_gstep (or_buildBytes (l := [255, 255, 255, 255, 255, 255, 255, 255, 255, 2]) bt22 (os := [.const (.int .u8 255), .const (.int .u8 255), .const (.int .u8 255), .const (.int .u8 255), .const (.int .u8 255), .const (.int .u8 255), .const (.int .u8 255), .const (.int .u8 255), .const (.int .u8 255), .const (.int .u8 2)]) rfl rfl rfl (by decide)) rfl rfl rfl rfl rfl ?_
  rintro v w11 ⟨A53, c53, rfl, ho53, he53⟩
  replace hE := hE.tr he53
  replace ho17 := Own.ext ho17 he53
  replace ho22 := Own.ext ho22 he53
  replace ho23 := Own.ext ho23 he53
  replace ho27 := Own.ext ho27 he53
  replace ho35 := Own.ext ho35 he53
  replace ho40 := Own.ext ho40 he53
  replace ho45 := Own.ext ho45 he53
  replace ho49 := Own.ext ho49 he53
  have hz_he53 := he53.size
  have hq_ho53 := fun g e => Own.lt ho53 (g := g) e
  refine wl_gval (or_call0 cl30 rfl rfl (lget_any _ _ _ _ _ [255, 255, 255, 255, 255, 255, 255, 255, 255, 2] 0 0 6 (OwnB.rd ho53) (by decide) (by decide) (by decide))) rfl rfl rfl rfl rfl ?_
  refine wl_gval (ov_not (b := true) rfl) rfl rfl rfl rfl rfl ?_
  refine wl_val (ov_pick_f rfl rfl) rfl rfl rfl ?_
  refine q_nil ?_
  refine k_then ?_
  refine wc_cond_f rfl ?_
  refine q_skip ?_
  refine k_then ?_
  refine wc_seq ?_
  refine wc_seq ?_
  refine wc_regionL ?_
  refine wl_step (or_buildBytes (l := [97, 98]) bt22 (os := [.const (.int .u8 97), .const (.int .u8 98)]) rfl rfl rfl (by decide)) rfl rfl rfl ?_
  rintro v w12 ⟨A57, c57, rfl, ho57, he57⟩
  replace hE := hE.tr he57
  replace ho17 := Own.ext ho17 he57
  replace ho22 := Own.ext ho22 he57
  replace ho23 := Own.ext ho23 he57
  replace ho27 := Own.ext ho27 he57
  replace ho35 := Own.ext ho35 he57
  replace ho40 := Own.ext ho40 he57
  replace ho45 := Own.ext ho45 he57
  replace ho49 := Own.ext ho49 he57
  replace ho53 := Own.ext ho53 he57
  have hz_he57 := he57.size
  have hq_ho57 := fun g e => Own.lt ho57 (g := g) e
  refine wl_step (or_markBytes bt22 rfl ho57 (by simp)) rfl rfl rfl ?_
  rintro v w13 ⟨rfl, hr58, he58⟩
  have hz_he58 := he58.size
  replace hE := hE.gr he58 (fun g e => by have := hq_ho57 g e; omega)
  replace ho17 := Own.gr ho17 he58 (own_apart fun g e g2 e2 => by have := hq_ho17 g e; have := hq_ho57 g2 e2; omega)
  replace ho22 := Own.gr ho22 he58 (own_apart fun g e g2 e2 => by have := hq_ho22 g e; have := hq_ho57 g2 e2; omega)
  replace ho23 := Own.gr ho23 he58 (own_apart fun g e g2 e2 => by have := hq_ho23 g e; have := hq_ho57 g2 e2; omega)
  replace ho27 := Own.gr ho27 he58 (own_apart fun g e g2 e2 => by have := hq_ho27 g e; have := hq_ho57 g2 e2; omega)
  replace ho35 := Own.gr ho35 he58 (own_apart fun g e g2 e2 => by have := hq_ho35 g e; have := hq_ho57 g2 e2; omega)
  replace ho40 := Own.gr ho40 he58 (own_apart fun g e g2 e2 => by have := hq_ho40 g e; have := hq_ho57 g2 e2; omega)
  replace ho45 := Own.gr ho45 he58 (own_apart fun g e g2 e2 => by have := hq_ho45 g e; have := hq_ho57 g2 e2; omega)
  replace ho49 := Own.gr ho49 he58 (own_apart fun g e g2 e2 => by have := hq_ho49 g e; have := hq_ho57 g2 e2; omega)
  replace ho53 := Own.gr ho53 he58 (own_apart fun g e g2 e2 => by have := hq_ho53 g e; have := hq_ho57 g2 e2; omega)
  refine wl_step (or_call0 cl25 rfl rfl (putbytes_any _ _ _ _ _ _ _ [] _ _ [97, 98] (RdB.nil _ 0 0) hr58 (by simp))) rfl rfl rfl ?_
  rintro v w14 ⟨A59, c59, rfl, ho59, he59⟩
  replace hE := hE.tr he59
  replace ho17 := Own.ext ho17 he59
  replace ho22 := Own.ext ho22 he59
  replace ho23 := Own.ext ho23 he59
  replace ho27 := Own.ext ho27 he59
  replace ho35 := Own.ext ho35 he59
  replace ho40 := Own.ext ho40 he59
  replace ho45 := Own.ext ho45 he59
  replace ho49 := Own.ext ho49 he59
  replace ho53 := Own.ext ho53 he59
  replace hr58 := hr58.ext he59
  have hz_he59 := he59.size
  have hq_ho59 := fun g e => Own.lt ho59 (g := g) e
  refine wl_val (ov_bstr bt22 Try.underlying9 rfl (OwnB.rd ho59)) rfl rfl rfl ?_
  refine wl_val (ov_sne rfl rfl) rfl rfl rfl ?_
  refine wl_spell (d := 61) rfl (bf (by decide)) ?_
  refine wl_val (ov_move rfl) rfl rfl rfl ?_
  refine wl_gstep (or_buildBytes (l := [2, 97, 98, 99]) bt22 (os := [.const (.int .u8 2), .const (.int .u8 97), .const (.int .u8 98), .const (.int .u8 99)]) rfl rfl rfl (by decide)) rfl rfl rfl rfl rfl ?_
  rintro v w15 ⟨A63, c63, rfl, ho63, he63⟩
  replace hE := hE.tr he63
  replace ho17 := Own.ext ho17 he63
  replace ho22 := Own.ext ho22 he63
  replace ho23 := Own.ext ho23 he63
  replace ho27 := Own.ext ho27 he63
  replace ho35 := Own.ext ho35 he63
  replace ho40 := Own.ext ho40 he63
  replace ho45 := Own.ext ho45 he63
  replace ho49 := Own.ext ho49 he63
  replace ho53 := Own.ext ho53 he63
  replace hr58 := hr58.ext he63
  replace ho59 := Own.ext ho59 he63
  have hz_he63 := he63.size
  have hq_ho63 := fun g e => Own.lt ho63 (g := g) e
  refine wl_gstep (or_call0 cl32 rfl rfl (lpart_any _ _ _ _ _ [2, 97, 98, 99] 2 (by omega) [97, 98] 3 0 (OwnB.rd ho63) (by simp) (by decide) (by decide) (by decide))) rfl rfl rfl rfl rfl ?_
  rintro v w16 ⟨rfl, he64⟩
  replace hE := hE.tr he64
  replace ho17 := Own.ext ho17 he64
  replace ho22 := Own.ext ho22 he64
  replace ho23 := Own.ext ho23 he64
  replace ho27 := Own.ext ho27 he64
  replace ho35 := Own.ext ho35 he64
  replace ho40 := Own.ext ho40 he64
  replace ho45 := Own.ext ho45 he64
  replace ho49 := Own.ext ho49 he64
  replace ho53 := Own.ext ho53 he64
  replace hr58 := hr58.ext he64
  replace ho59 := Own.ext ho59 he64
  replace ho63 := Own.ext ho63 he64
  have hz_he64 := he64.size
  refine wl_gval (ov_not (b := true) rfl) rfl rfl rfl rfl rfl ?_
  refine wl_val (ov_pick_f rfl rfl) rfl rfl rfl ?_
  refine wl_val (ov_move rfl) rfl rfl rfl ?_
  refine wl_gstep (or_buildBytes (l := [2, 97]) bt22 (os := [.const (.int .u8 2), .const (.int .u8 97)]) rfl rfl rfl (by decide)) rfl rfl rfl rfl rfl ?_
  rintro v w17 ⟨A68, c68, rfl, ho68, he68⟩
  replace hE := hE.tr he68
  replace ho17 := Own.ext ho17 he68
  replace ho22 := Own.ext ho22 he68
  replace ho23 := Own.ext ho23 he68
  replace ho27 := Own.ext ho27 he68
  replace ho35 := Own.ext ho35 he68
  replace ho40 := Own.ext ho40 he68
  replace ho45 := Own.ext ho45 he68
  replace ho49 := Own.ext ho49 he68
  replace ho53 := Own.ext ho53 he68
  replace hr58 := hr58.ext he68
  replace ho59 := Own.ext ho59 he68
  replace ho63 := Own.ext ho63 he68
  have hz_he68 := he68.size
  have hq_ho68 := fun g e => Own.lt ho68 (g := g) e
  refine wl_gstep (or_call0 cl32 rfl rfl (lpart_any _ _ _ _ _ [2, 97] 5 (by omega) [] 0 4 (OwnB.rd ho68) (by simp) (by decide) (by decide) (by decide))) rfl rfl rfl rfl rfl ?_
  rintro v w18 ⟨rfl, he69⟩
  replace hE := hE.tr he69
  replace ho17 := Own.ext ho17 he69
  replace ho22 := Own.ext ho22 he69
  replace ho23 := Own.ext ho23 he69
  replace ho27 := Own.ext ho27 he69
  replace ho35 := Own.ext ho35 he69
  replace ho40 := Own.ext ho40 he69
  replace ho45 := Own.ext ho45 he69
  replace ho49 := Own.ext ho49 he69
  replace ho53 := Own.ext ho53 he69
  replace hr58 := hr58.ext he69
  replace ho59 := Own.ext ho59 he69
  replace ho63 := Own.ext ho63 he69
  replace ho68 := Own.ext ho68 he69
  have hz_he69 := he69.size
  refine wl_gval (ov_not (b := true) rfl) rfl rfl rfl rfl rfl ?_
  refine wl_val (ov_pick_f rfl rfl) rfl rfl rfl ?_
  refine wl_val (ov_move rfl) rfl rfl rfl ?_
  refine wl_gstep (or_buildBytes (l := [2, 97, 98]) bt22 (os := [.const (.int .u8 2), .const (.int .u8 97), .const (.int .u8 98)]) rfl rfl rfl (by decide)) rfl rfl rfl rfl rfl ?_
  rintro v w19 ⟨A73, c73, rfl, ho73, he73⟩
  replace hE := hE.tr he73
  replace ho17 := Own.ext ho17 he73
  replace ho22 := Own.ext ho22 he73
  replace ho23 := Own.ext ho23 he73
  replace ho27 := Own.ext ho27 he73
  replace ho35 := Own.ext ho35 he73
  replace ho40 := Own.ext ho40 he73
  replace ho45 := Own.ext ho45 he73
  replace ho49 := Own.ext ho49 he73
  replace ho53 := Own.ext ho53 he73
  replace hr58 := hr58.ext he73
  replace ho59 := Own.ext ho59 he73
  replace ho63 := Own.ext ho63 he73
  replace ho68 := Own.ext ho68 he73
  have hz_he73 := he73.size
  have hq_ho73 := fun g e => Own.lt ho73 (g := g) e
  refine wl_gstep (or_call0 cl32 rfl rfl (lpart_any _ _ _ _ _ [2, 97, 98] 1 (by omega) [] 0 5 (OwnB.rd ho73) (by simp) (by decide) (by decide) (by decide))) rfl rfl rfl rfl rfl ?_
  rintro v w20 ⟨rfl, he74⟩
  replace hE := hE.tr he74
  replace ho17 := Own.ext ho17 he74
  replace ho22 := Own.ext ho22 he74
  replace ho23 := Own.ext ho23 he74
  replace ho27 := Own.ext ho27 he74
  replace ho35 := Own.ext ho35 he74
  replace ho40 := Own.ext ho40 he74
  replace ho45 := Own.ext ho45 he74
  replace ho49 := Own.ext ho49 he74
  replace ho53 := Own.ext ho53 he74
  replace hr58 := hr58.ext he74
  replace ho59 := Own.ext ho59 he74
  replace ho63 := Own.ext ho63 he74
  replace ho68 := Own.ext ho68 he74
  replace ho73 := Own.ext ho73 he74
  have hz_he74 := he74.size
  refine wl_gval (ov_not (b := true) rfl) rfl rfl rfl rfl rfl ?_
  refine wl_val (ov_pick_f rfl rfl) rfl rfl rfl ?_
  refine wl_val (ov_move rfl) rfl rfl rfl ?_
  refine wl_gstep (or_buildBytes (l := [0]) bt22 (os := [.const (.int .u8 0)]) rfl rfl rfl (by decide)) rfl rfl rfl rfl rfl ?_
  rintro v w21 ⟨A78, c78, rfl, ho78, he78⟩
  replace hE := hE.tr he78
  replace ho17 := Own.ext ho17 he78
  replace ho22 := Own.ext ho22 he78
  replace ho23 := Own.ext ho23 he78
  replace ho27 := Own.ext ho27 he78
  replace ho35 := Own.ext ho35 he78
  replace ho40 := Own.ext ho40 he78
  replace ho45 := Own.ext ho45 he78
  replace ho49 := Own.ext ho49 he78
  replace ho53 := Own.ext ho53 he78
  replace hr58 := hr58.ext he78
  replace ho59 := Own.ext ho59 he78
  replace ho63 := Own.ext ho63 he78
  replace ho68 := Own.ext ho68 he78
  replace ho73 := Own.ext ho73 he78
  have hz_he78 := he78.size
  have hq_ho78 := fun g e => Own.lt ho78 (g := g) e
  refine wl_gstep (or_call0 cl32 rfl rfl (lpart_any _ _ _ _ _ [0] 0 (by omega) [] 1 0 (OwnB.rd ho78) (by simp) (by decide) (by decide) (by decide))) rfl rfl rfl rfl rfl ?_
  rintro v w22 ⟨rfl, he79⟩
  replace hE := hE.tr he79
  replace ho17 := Own.ext ho17 he79
  replace ho22 := Own.ext ho22 he79
  replace ho23 := Own.ext ho23 he79
  replace ho27 := Own.ext ho27 he79
  replace ho35 := Own.ext ho35 he79
  replace ho40 := Own.ext ho40 he79
  replace ho45 := Own.ext ho45 he79
  replace ho49 := Own.ext ho49 he79
  replace ho53 := Own.ext ho53 he79
  replace hr58 := hr58.ext he79
  replace ho59 := Own.ext ho59 he79
  replace ho63 := Own.ext ho63 he79
  replace ho68 := Own.ext ho68 he79
  replace ho73 := Own.ext ho73 he79
  replace ho78 := Own.ext ho78 he79
  have hz_he79 := he79.size
  refine wl_gval (ov_not (b := true) rfl) rfl rfl rfl rfl rfl ?_
  refine wl_val (ov_pick_f rfl rfl) rfl rfl rfl ?_
  refine q_nil ?_
  refine k_then ?_
  refine wc_cond_f rfl ?_
  refine q_skip ?_
  refine k_then ?_
  refine wc_seq ?_
  refine wc_regionL ?_
  refine wl_step (or_buildBytes (l := [5, 1, 120, 7]) bt22 (os := [.const (.int .u8 5), .const (.int .u8 1), .const (.int .u8 120), .const (.int .u8 7)]) rfl rfl rfl (by decide)) rfl rfl rfl ?_
  rintro v w23 ⟨A82, c82, rfl, ho82, he82⟩
  replace hE := hE.tr he82
  replace ho17 := Own.ext ho17 he82
  replace ho22 := Own.ext ho22 he82
  replace ho23 := Own.ext ho23 he82
  replace ho27 := Own.ext ho27 he82
  replace ho35 := Own.ext ho35 he82
  replace ho40 := Own.ext ho40 he82
  replace ho45 := Own.ext ho45 he82
  replace ho49 := Own.ext ho49 he82
  replace ho53 := Own.ext ho53 he82
  replace hr58 := hr58.ext he82
  replace ho59 := Own.ext ho59 he82
  replace ho63 := Own.ext ho63 he82
  replace ho68 := Own.ext ho68 he82
  replace ho73 := Own.ext ho73 he82
  replace ho78 := Own.ext ho78 he82
  have hz_he82 := he82.size
  have hq_ho82 := fun g e => Own.lt ho82 (g := g) e
  refine wl_step (or_call0 cl34 rfl rfl (rnew_any _ _ _ _ _ [5, 1, 120, 7] (OwnB.rd ho82) (by decide))) rfl rfl rfl ?_
  rintro v w24 ⟨g, A1, c1, h2, rfl, hb_g, hr1, hle, he83, hg1, hg2⟩
  replace hE := hE.tr he83
  replace ho17 := Own.ext ho17 he83
  replace ho22 := Own.ext ho22 he83
  replace ho23 := Own.ext ho23 he83
  replace ho27 := Own.ext ho27 he83
  replace ho35 := Own.ext ho35 he83
  replace ho40 := Own.ext ho40 he83
  replace ho45 := Own.ext ho45 he83
  replace ho49 := Own.ext ho49 he83
  replace ho53 := Own.ext ho53 he83
  replace hr58 := hr58.ext he83
  replace ho59 := Own.ext ho59 he83
  replace ho63 := Own.ext ho63 he83
  replace ho68 := Own.ext ho68 he83
  replace ho73 := Own.ext ho73 he83
  replace ho78 := Own.ext ho78 he83
  replace ho82 := Own.ext ho82 he83
  have hz_he83 := he83.size
  have hzg := hb_g.lt
  refine wl_val (ov_assign rfl) rfl rfl rfl ?_
  refine q_nil ?_
  refine k_then ?_
  refine wc_seq ?_
  refine wc_regionL ?_
  refine wl_val (ov_move rfl) rfl rfl rfl ?_
  refine wl_val (ov_nnilptr Try.underlying62 rfl) rfl rfl rfl ?_
  refine wl_val (ov_move rfl) rfl rfl rfl ?_
  refine wl_gval (ov_move rfl) rfl rfl rfl rfl rfl ?_
  refine wl_gstep (or_call0 cl35 rfl rfl (lnum_ok _ g _ _ A1 c1 [5, 1, 120, 7] hb_g hr1 (.inr hle) (by decide) 5 0 (by decide) (by decide))) rfl rfl rfl rfl rfl ?_
  rintro v w25 ⟨rfl, hg88, A2, c2, hb_g2, hr2⟩
  replace hE := hE.gr hg88 (fun _ e => by cases e; omega)
  have hz88 := hg88.size
  replace hr2 : RdB _ _ _ A2 c2 [1, 120, 7] := hr2
  refine wl_val (ov_pick_t rfl rfl) rfl rfl rfl ?_
  refine wl_val (ov_move rfl) rfl rfl rfl ?_
  refine wl_gval (ov_move rfl) rfl rfl rfl rfl rfl ?_
  refine wl_gstep (or_call0 cl37 rfl rfl (lbytes_ok _ g _ _ A2 c2 [1, 120, 7] hb_g2 hr2 (.inr hle) (by decide) 9 (by omega) [120] 0 (by decide) (by decide))) rfl rfl rfl rfl rfl ?_
  rintro v w26 ⟨rfl, hg92, A3, c3, hb_g3, hr3⟩
  replace hE := hE.gr hg92 (fun _ e => by cases e; omega)
  have hz92 := hg92.size
  replace hr3 : RdB _ _ _ A3 c3 [7] := hr3
  refine wl_val (ov_pick_t rfl rfl) rfl rfl rfl ?_
  refine wl_val (ov_move rfl) rfl rfl rfl ?_
  refine wl_gval (ov_move rfl) rfl rfl rfl rfl rfl ?_
  refine wl_gstep (or_call0 cl37 rfl rfl (lbytes_ok _ g _ _ A3 c3 [7] hb_g3 hr3 (.inr hle) (by decide) 9 (by omega) [] 4 (by decide) (by decide))) rfl rfl rfl rfl rfl ?_
  rintro v w27 ⟨rfl, hg96, A4, c4, hb_g4, hr4⟩
  replace hE := hE.gr hg96 (fun _ e => by cases e; omega)
  have hz96 := hg96.size
  replace hr4 : RdB _ _ _ A4 c4 [7] := hr4
  refine wl_val (ov_pick_t rfl rfl) rfl rfl rfl ?_
  refine wl_val (ov_move rfl) rfl rfl rfl ?_
  refine wl_gval (ov_move rfl) rfl rfl rfl rfl rfl ?_
  refine wl_gstep (or_call0 cl36 rfl rfl (lone_ok _ g _ _ A4 c4 [7] hb_g4 hr4 (.inr hle) (by decide) 7 0 (by decide) (by decide))) rfl rfl rfl rfl rfl ?_
  rintro v w28 ⟨rfl, hg100, A5, c5, hb_g5, hr5⟩
  replace hE := hE.gr hg100 (fun _ e => by cases e; omega)
  have hz100 := hg100.size
  replace hr5 : RdB _ _ _ A5 c5 [] := hr5
  refine wl_val (ov_pick_t rfl rfl) rfl rfl rfl ?_
  refine wl_val (ov_move rfl) rfl rfl rfl ?_
  refine wl_gval (ov_move rfl) rfl rfl rfl rfl rfl ?_
  refine wl_gstep (or_call0 cl36 rfl rfl (lone_ok _ g _ _ A5 c5 [] hb_g5 hr5 (.inr hle) (by decide) 0 4 (by decide) (by decide))) rfl rfl rfl rfl rfl ?_
  rintro v w29 ⟨rfl, hg104, A6, c6, hb_g6, hr6⟩
  replace hE := hE.gr hg104 (fun _ e => by cases e; omega)
  have hz104 := hg104.size
  replace hr6 : RdB _ _ _ A6 c6 [] := hr6
  refine wl_val (ov_pick_t rfl rfl) rfl rfl rfl ?_
  refine wl_val (ov_move rfl) rfl rfl rfl ?_
  refine wl_gval (ov_move rfl) rfl rfl rfl rfl rfl ?_
  refine wl_gval (or_call0 cl38 rfl rfl (left_ok _ g _ _ A6 c6 [] hb_g6 hr6 (.inr hle) (by decide))) rfl rfl rfl rfl rfl ?_
  refine wl_gval (ov_eql rfl rfl) rfl rfl rfl rfl rfl ?_
  refine wl_val (ov_pick_t rfl rfl) rfl rfl rfl ?_
  refine wl_val (ov_assign rfl) rfl rfl rfl ?_
  refine q_nil ?_
  refine k_then ?_
  refine q_ret ?_
  refine e_ret rfl rfl ?_
  exact ⟨rfl, hE⟩

end Go.Proofs.Ytfniipfdpoeapaa
