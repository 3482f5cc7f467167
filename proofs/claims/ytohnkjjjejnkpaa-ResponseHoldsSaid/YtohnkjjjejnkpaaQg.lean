/-
  The command of a frame.
-/
import Derived.Test.YtohnkjjjejnkpaaQf
namespace Go.Proofs.Ytohnkjjjejnkpaa
open Go.RowKit
set_option linter.unusedVariables false
set_option maxRecDepth 4000
theorem ag58_10 : aggTy Try.prog 58 10 = true := by kernel_rfl
theorem cl34 : callable Try.prog 34 = true := by kernel_rfl
theorem cl36 : callable Try.prog 36 = true := by kernel_rfl
theorem cl40 : callable Try.prog 40 = true := by kernel_rfl
theorem pl58 : placesOf Try.prog 58 = some [(0, 1), (1, 1), (2, 1), (3, 1), (4, 1), (5, 1), (6, 1), (7, 1), (8, 1), (9, 1)] := by kernel_rfl
theorem pl92 : placesOf Try.prog 92 = some [(0, 1), (1, 1), (2, 1), (3, 1)] := by kernel_rfl
theorem sz58 : (Try.prog.info? 58).map (·.size) = some 10 := by kernel_rfl
theorem sz92 : (Try.prog.info? 92).map (·.size) = some 4 := by kernel_rfl
theorem ze58 : zeroOf Try.prog 58 = some (.agg #[(.int .i64 0), (.string (strB [])), (.slice none 0 0), (.slice none 0 0), (.slice none 0 0), (.int .u64 0), (.int .u64 0), (.string (strB [])), (.string (strB [])), (.string (strB []))]) := by kernel_rfl
theorem ze92 : zeroOf Try.prog 92 = some (.agg #[(.pointer none), (.pointer none), (.slice none 0 0), (.bool false)]) := by kernel_rfl

/-- The command of a frame, and the error. -/
def rdC (code : UInt8) (l : List UInt8) : Cmd × Nat := if 1 ≤ code.toNat ∧ code.toNat ≤ 15 ∧ (rfold (code.toNat : Int) l).2.2 = false ∧ (rfold (code.toNat : Int) l).2.1 = [] then ((rfold (code.toNat : Int) l).1, 0) else (cmd0 0, 6)
theorem rdC_ok {code : UInt8} {l : List UInt8} (h1 : 1 ≤ code.toNat) (h2 : code.toNat ≤ 15) (h3 : (rfold (code.toNat : Int) l).2.2 = false) (h4 : (rfold (code.toNat : Int) l).2.1 = []) : rdC code l = ((rfold (code.toNat : Int) l).1, 0) := if_pos ⟨h1, h2, h3, h4⟩
theorem rdC_bad {code : UInt8} {l : List UInt8} (h : ¬ (1 ≤ code.toNat ∧ code.toNat ≤ 15 ∧ (rfold (code.toNat : Int) l).2.2 = false ∧ (rfold (code.toNat : Int) l).2.1 = [])) : rdC code l = (cmd0 0, 6) := if_neg h

theorem rread_ok (w : World) (code : UInt8) (lo hi : Nat) (A : Option Addr) (c : Nat) (l : List UInt8) (hr : RdB w lo hi A c l) (hlen : l.length ≤ 140737488355328) (h1 : 1 ≤ code.toNat) (h2 : code.toNat ≤ 15) (h3 : (rfold (↑code.toNat : Int) l).2.2 = false) (h4 : (rfold (↑code.toNat : Int) l).2.1 = []) :
    Fn Try.prog 24 #[(.agg #[(.int .u8 (↑code.toNat : Int)), (.slice A l.length c)])] w (fun v w' => ∃ K ck V cv T ct, v = .tuple #[.agg (cmdc (rfold (↑code.toNat : Int) l).1 K ck V cv T ct).toArray, .int .i64 0] ∧ RdS w' w.heap.size w'.heap.size K ck (rfold (↑code.toNat : Int) l).1.keys ∧ RdB w' w.heap.size w'.heap.size V cv (rfold (↑code.toNat : Int) l).1.value ∧ RdS w' w.heap.size w'.heap.size T ct (rfold (↑code.toNat : Int) l).1.tags ∧ Ext w w')  := by
  replace hr := hr.top
  have hE := ext_refl w
  have hct := code.toNat_lt
  refine fn_enter (args := [(.agg #[(.int .u8 (↑code.toNat : Int)), (.slice A l.length c)])]) Try.func24 rfl rfl rfl ?_
  show WC _ _ _ _ [(0, (.agg #[(.int .u8 (↑code.toNat : Int)), (.slice A l.length c)]))] _
  refine wc_seq (wc_regionL ?_)
  refine wl_step (or_box (cs := [(.int .u8 (↑code.toNat : Int)), (.slice A l.length c)]) rfl rfl) rfl rfl rfl ?_
  rintro v w1 ⟨g1, rfl, hb_g1, he1, hl1, hu1⟩
  replace hr := hr.ext he1
  replace hE := hE.tr he1
  have hz_he1 := he1.size
  refine wl_step (or_alloc (cs := [(.int .i64 0), (.string (strB [])), (.slice none 0 0), (.slice none 0 0), (.slice none 0 0), (.int .u64 0), (.int .u64 0), (.string (strB [])), (.string (strB [])), (.string (strB []))]) ze58 rfl) rfl rfl rfl ?_
  rintro v w2 ⟨g2, rfl, hb_g2, he2, hl2, hu2⟩
  replace hr := hr.ext he2
  replace hE := hE.tr he2
  replace hb_g1 := hb_g1.ext he2
  have hz_he2 := he2.size
  refine va rfl rfl ?_
  refine q_nil (k_then (wc_seq (wc_regionL ?_)))
  refine wl_val (ov_field0 (off := 0) fo34_0 rfl) rfl rfl rfl ?_
  refine wl_val (ov_loadAt oc5 rfl hb_g1 rfl) rfl rfl rfl ?_
  refine wl_val (ov_conv Try.underlying5 Try.underlying22 rfl (wi64 (by omega) (by omega))) rfl rfl rfl ?_
  refine wl_val (ov_build (cs := [(.int .i64 (↑code.toNat : Int)), (.string (strB [])), (.slice none 0 0), (.slice none 0 0), (.slice none 0 0), (.int .u64 0), (.int .u64 0), (.string (strB [])), (.string (strB [])), (.string (strB []))]) ze58 pl58 rfl rfl) rfl rfl rfl ?_
  refine wl_step (or_alloc (cs := [(.int .i64 0), (.string (strB [])), (.slice none 0 0), (.slice none 0 0), (.slice none 0 0), (.int .u64 0), (.int .u64 0), (.string (strB [])), (.string (strB [])), (.string (strB []))]) ze58 rfl) rfl rfl rfl ?_
  rintro v w3 ⟨g4, rfl, hb_g4, he4, hl4, hu4⟩
  replace hr := hr.ext he4
  replace hE := hE.tr he4
  replace hb_g1 := hb_g1.ext he4
  replace hb_g2 := hb_g2.ext he4
  have hz_he4 := he4.size
  refine wl_step0 (or_storeBlk (vs := [(.int .i64 (↑code.toNat : Int)), (.string (strB [])), (.slice none 0 0), (.slice none 0 0), (.slice none 0 0), (.int .u64 0), (.int .u64 0), (.string (strB [])), (.string (strB [])), (.string (strB []))]) sz58 rfl rfl (by simp [Value.oneCell']) hb_g4 rfl) rfl rfl ?_
  rintro _ w4 ⟨hN4, hg4⟩
  have hz_hg4 := hg4.size
  replace hr := hr.gr hg4 (fun _ e => by cases e; omega)
  replace hE := hE.gr hg4 (fun _ e => by cases e; omega)
  replace hb_g1 := hb_g1.gr hg4 (by intro e; cases e; omega)
  replace hb_g2 := hb_g2.gr hg4 (by intro e; cases e; omega)
  replace hb_g4 := hN4
  refine q_nil (k_then (wc_seq (wc_regionL ?_)))
  refine wl_val (ov_field0 (off := 1) fo34_1 rfl) rfl rfl rfl ?_
  refine wl_val (ov_loadAt oc32 rfl hb_g1 rfl) rfl rfl rfl ?_
  have hz4 := hb_g4.lt
  refine wl_step (or_call0 cl34 rfl rfl (rnew_any _ _ _ _ _ l hr hlen)) rfl rfl rfl ?_
  rintro v w5 ⟨gr, A1, c1, h2, rfl, hb_gr, hr1, hle, he12, hg1, hg2⟩
  replace hr := hr.ext he12
  replace hE := hE.tr he12
  replace hb_g1 := hb_g1.ext he12
  replace hb_g2 := hb_g2.ext he12
  replace hb_g4 := hb_g4.ext he12
  have hz_he12 := he12.size
  have hzr := hb_gr.lt
  refine wl_val (ov_build (cs := [(.pointer (some ⟨g4, 0, none⟩)), (.pointer (some ⟨gr, 0, none⟩)), (.slice none 0 0), (.bool false)]) ze92 pl92 rfl rfl) rfl rfl rfl ?_
  refine wl_step (or_alloc (cs := [(.pointer none), (.pointer none), (.slice none 0 0), (.bool false)]) ze92 rfl) rfl rfl rfl ?_
  rintro v w6 ⟨g5, rfl, hb_g5, he5, hl5, hu5⟩
  replace hr := hr.ext he5
  replace hE := hE.tr he5
  replace hb_g1 := hb_g1.ext he5
  replace hb_g2 := hb_g2.ext he5
  replace hb_g4 := hb_g4.ext he5
  replace hb_gr := hb_gr.ext he5
  replace hr1 := hr1.ext he5
  have hz_he5 := he5.size
  refine wl_step0 (or_storeBlk (vs := [(.pointer (some ⟨g4, 0, none⟩)), (.pointer (some ⟨gr, 0, none⟩)), (.slice none 0 0), (.bool false)]) sz92 rfl rfl (by simp [Value.oneCell']) hb_g5 rfl) rfl rfl ?_
  rintro _ w7 ⟨hN7, hg7⟩
  have hz_hg7 := hg7.size
  replace hr := hr.gr hg7 (fun _ e => by cases e; omega)
  replace hE := hE.gr hg7 (fun _ e => by cases e; omega)
  replace hb_g1 := hb_g1.gr hg7 (by intro e; cases e; omega)
  replace hb_g2 := hb_g2.gr hg7 (by intro e; cases e; omega)
  replace hb_g4 := hb_g4.gr hg7 (by intro e; cases e; omega)
  replace hb_gr := hb_gr.gr hg7 (by intro e; cases e; omega)
  replace hr1 := hr1.gr hg7 (fun _ e => by cases e; omega)
  replace hb_g5 := hN7
  refine q_nil (k_then (wc_seq (wc_regionL ?_)))
  refine wl_step (or_call0 cl40 rfl rfl (partsr _ g5 g4 gr _ _ A1 c1 l hb_g5 hb_gr hr1 (by omega) (by omega) (by omega) (by omega) (↑code.toNat : Int) hb_g4 (by omega) (by omega) (by omega) (by omega) (by omega) (by omega))) rfl rfl rfl ?_
  rintro v w8 ⟨rfl, hN, ⟨A14, c14, hQ, hr14⟩, ⟨K, ck, V, cv, T, ct, hT0, hKk, hVv, hTt⟩, hKp⟩
  have hz_hKp := hKp.size
  replace hr := hKp.rd hr (by intro g hg; simp at hg; omega)
  replace hE := hKp.e0 hE (by intro g hg; simp at hg; omega)
  replace hb_g1 := hKp.bk hb_g1 (by intro hg; simp at hg; omega)
  replace hb_g2 := hKp.bk hb_g2 (by intro hg; simp at hg; omega)
  replace hb_g5 := hN
  replace hb_gr := hQ
  replace hb_g4 := hT0
  refine q_nil (k_then (wc_seq (wc_seq (wc_regionL ?_))))
  refine wl_val (ov_field0 (off := 3) fo92_3 rfl) rfl rfl rfl ?_
  refine wl_val (ov_loadAt oc4 rfl hb_g5 rfl) rfl rfl rfl ?_
  refine wl_spell (d := 16) rfl (v' := (.bool false)) (by rw [h3]) ?_
  refine vm rfl rfl ?_
  refine wl_gval (ov_field0 (off := 1) fo92_1 rfl) rfl rfl rfl rfl rfl ?_
  refine wl_gval (ov_loadAt oc83 rfl hb_g5 rfl) rfl rfl rfl rfl rfl ?_
  have h40 : (rfold (↑code.toNat : Int) l).2.1.length = 0 := by rw [h4]; rfl
  refine wl_gval (or_call0 cl36 rfl rfl (left_ok _ gr _ _ A14 c14 (rfold (↑code.toNat : Int) l).2.1 hb_gr hr14 (by omega) (by omega))) rfl rfl rfl rfl rfl ?_
  refine wl_gval (ov_gtr rfl rfl) rfl rfl rfl rfl rfl ?_
  refine wl_spell (d := 21) rfl (bf (by omega)) ?_
  refine wl_val (ov_pick_f rfl rfl) rfl rfl rfl ?_
  refine q_nil (k_then ?_)
  refine wc_cond_f rfl ?_
  refine q_skip (k_then (wc_seq (wc_regionL ?_)))
  refine wl_val (ov_loadBlk (cs := [(.int .i64 (rfold (↑code.toNat : Int) l).1.op), (.string (strB (rfold (↑code.toNat : Int) l).1.key)), (.slice K (rfold (↑code.toNat : Int) l).1.keys.length ck), (.slice V (rfold (↑code.toNat : Int) l).1.value.length cv), (.slice T (rfold (↑code.toNat : Int) l).1.tags.length ct), (.int .u64 (↑(rfold (↑code.toNat : Int) l).1.life : Int)), (.int .u64 (↑(rfold (↑code.toNat : Int) l).1.ver : Int)), (.string (strB (rfold (↑code.toNat : Int) l).1.tag)), (.string (strB (rfold (↑code.toNat : Int) l).1.pre)), (.string (strB (rfold (↑code.toNat : Int) l).1.child))]) ag58_10 rfl hb_g4) rfl rfl rfl ?_
  refine wl_step0 (or_storeBlk (vs := [(.int .i64 (rfold (↑code.toNat : Int) l).1.op), (.string (strB (rfold (↑code.toNat : Int) l).1.key)), (.slice K (rfold (↑code.toNat : Int) l).1.keys.length ck), (.slice V (rfold (↑code.toNat : Int) l).1.value.length cv), (.slice T (rfold (↑code.toNat : Int) l).1.tags.length ct), (.int .u64 (↑(rfold (↑code.toNat : Int) l).1.life : Int)), (.int .u64 (↑(rfold (↑code.toNat : Int) l).1.ver : Int)), (.string (strB (rfold (↑code.toNat : Int) l).1.tag)), (.string (strB (rfold (↑code.toNat : Int) l).1.pre)), (.string (strB (rfold (↑code.toNat : Int) l).1.child))]) sz58 rfl rfl (by simp [Value.oneCell']) hb_g2 rfl) rfl rfl ?_
  rintro _ w9 ⟨hN9, hg9⟩
  have hz_hg9 := hg9.size
  replace hr := hr.gr hg9 (fun _ e => by cases e; omega)
  replace hE := hE.gr hg9 (fun _ e => by cases e; omega)
  replace hb_g1 := hb_g1.gr hg9 (by intro e; cases e; omega)
  replace hb_g5 := hb_g5.gr hg9 (by intro e; cases e; omega)
  replace hb_gr := hb_gr.gr hg9 (by intro e; cases e; omega)
  replace hb_g4 := hb_g4.gr hg9 (by intro e; cases e; omega)
  replace hr14 := hr14.gr hg9 (fun _ e => by cases e; omega)
  replace hKk := hKk.gr hg9 (fun _ e => by cases e; omega)
  replace hVv := hVv.gr hg9 (fun _ e => by cases e; omega)
  replace hTt := hTt.gr hg9 (fun _ e => by cases e; omega)
  replace hb_g2 := hN9
  refine va rfl rfl ?_
  refine q_nil (k_then (q_ret ?_))
  refine e_retL (rs := [.cell 2 58, .tmp 3]) (vs := [.agg #[(.int .i64 (rfold (↑code.toNat : Int) l).1.op), (.string (strB (rfold (↑code.toNat : Int) l).1.key)), (.slice K (rfold (↑code.toNat : Int) l).1.keys.length ck), (.slice V (rfold (↑code.toNat : Int) l).1.value.length cv), (.slice T (rfold (↑code.toNat : Int) l).1.tags.length ct), (.int .u64 (↑(rfold (↑code.toNat : Int) l).1.life : Int)), (.int .u64 (↑(rfold (↑code.toNat : Int) l).1.ver : Int)), (.string (strB (rfold (↑code.toNat : Int) l).1.tag)), (.string (strB (rfold (↑code.toNat : Int) l).1.pre)), (.string (strB (rfold (↑code.toNat : Int) l).1.child))], (.int .i64 0)]) rfl ⟨⟨_, _, [(.int .i64 (rfold (↑code.toNat : Int) l).1.op), (.string (strB (rfold (↑code.toNat : Int) l).1.key)), (.slice K (rfold (↑code.toNat : Int) l).1.keys.length ck), (.slice V (rfold (↑code.toNat : Int) l).1.value.length cv), (.slice T (rfold (↑code.toNat : Int) l).1.tags.length ct), (.int .u64 (↑(rfold (↑code.toNat : Int) l).1.life : Int)), (.int .u64 (↑(rfold (↑code.toNat : Int) l).1.ver : Int)), (.string (strB (rfold (↑code.toNat : Int) l).1.tag)), (.string (strB (rfold (↑code.toNat : Int) l).1.pre)), (.string (strB (rfold (↑code.toNat : Int) l).1.child))], rfl, ag58_10, hb_g2, rfl⟩, rfl, trivial⟩ ?_
  exact ⟨K, ck, V, cv, T, ct, rfl, hKk.mono (by omega) (by omega), hVv.mono (by omega) (by omega), hTt.mono (by omega) (by omega), hE⟩

theorem rread_bad (w : World) (code : UInt8) (lo hi : Nat) (A : Option Addr) (c : Nat) (l : List UInt8) (hr : RdB w lo hi A c l) (hlen : l.length ≤ 140737488355328) (h1 : 1 ≤ code.toNat) (h2 : code.toNat ≤ 15) (h3 : (rfold (↑code.toNat : Int) l).2.2 = true) :
    Fn Try.prog 24 #[(.agg #[(.int .u8 (↑code.toNat : Int)), (.slice A l.length c)])] w (fun v w' => ∃ K ck V cv T ct, v = .tuple #[.agg (cmdc (cmd0 0) K ck V cv T ct).toArray, .int .i64 6] ∧ RdS w' w.heap.size w'.heap.size K ck (cmd0 0).keys ∧ RdB w' w.heap.size w'.heap.size V cv (cmd0 0).value ∧ RdS w' w.heap.size w'.heap.size T ct (cmd0 0).tags ∧ Ext w w')  := by
  replace hr := hr.top
  have hE := ext_refl w
  have hct := code.toNat_lt
  refine fn_enter (args := [(.agg #[(.int .u8 (↑code.toNat : Int)), (.slice A l.length c)])]) Try.func24 rfl rfl rfl ?_
  show WC _ _ _ _ [(0, (.agg #[(.int .u8 (↑code.toNat : Int)), (.slice A l.length c)]))] _
  refine wc_seq (wc_regionL ?_)
  refine wl_step (or_box (cs := [(.int .u8 (↑code.toNat : Int)), (.slice A l.length c)]) rfl rfl) rfl rfl rfl ?_
  rintro v w1 ⟨g1, rfl, hb_g1, he1, hl1, hu1⟩
  replace hr := hr.ext he1
  replace hE := hE.tr he1
  have hz_he1 := he1.size
  refine wl_step (or_alloc (cs := [(.int .i64 0), (.string (strB [])), (.slice none 0 0), (.slice none 0 0), (.slice none 0 0), (.int .u64 0), (.int .u64 0), (.string (strB [])), (.string (strB [])), (.string (strB []))]) ze58 rfl) rfl rfl rfl ?_
  rintro v w2 ⟨g2, rfl, hb_g2, he2, hl2, hu2⟩
  replace hr := hr.ext he2
  replace hE := hE.tr he2
  replace hb_g1 := hb_g1.ext he2
  have hz_he2 := he2.size
  refine va rfl rfl ?_
  refine q_nil (k_then (wc_seq (wc_regionL ?_)))
  refine wl_val (ov_field0 (off := 0) fo34_0 rfl) rfl rfl rfl ?_
  refine wl_val (ov_loadAt oc5 rfl hb_g1 rfl) rfl rfl rfl ?_
  refine wl_val (ov_conv Try.underlying5 Try.underlying22 rfl (wi64 (by omega) (by omega))) rfl rfl rfl ?_
  refine wl_val (ov_build (cs := [(.int .i64 (↑code.toNat : Int)), (.string (strB [])), (.slice none 0 0), (.slice none 0 0), (.slice none 0 0), (.int .u64 0), (.int .u64 0), (.string (strB [])), (.string (strB [])), (.string (strB []))]) ze58 pl58 rfl rfl) rfl rfl rfl ?_
  refine wl_step (or_alloc (cs := [(.int .i64 0), (.string (strB [])), (.slice none 0 0), (.slice none 0 0), (.slice none 0 0), (.int .u64 0), (.int .u64 0), (.string (strB [])), (.string (strB [])), (.string (strB []))]) ze58 rfl) rfl rfl rfl ?_
  rintro v w3 ⟨g4, rfl, hb_g4, he4, hl4, hu4⟩
  replace hr := hr.ext he4
  replace hE := hE.tr he4
  replace hb_g1 := hb_g1.ext he4
  replace hb_g2 := hb_g2.ext he4
  have hz_he4 := he4.size
  refine wl_step0 (or_storeBlk (vs := [(.int .i64 (↑code.toNat : Int)), (.string (strB [])), (.slice none 0 0), (.slice none 0 0), (.slice none 0 0), (.int .u64 0), (.int .u64 0), (.string (strB [])), (.string (strB [])), (.string (strB []))]) sz58 rfl rfl (by simp [Value.oneCell']) hb_g4 rfl) rfl rfl ?_
  rintro _ w4 ⟨hN4, hg4⟩
  have hz_hg4 := hg4.size
  replace hr := hr.gr hg4 (fun _ e => by cases e; omega)
  replace hE := hE.gr hg4 (fun _ e => by cases e; omega)
  replace hb_g1 := hb_g1.gr hg4 (by intro e; cases e; omega)
  replace hb_g2 := hb_g2.gr hg4 (by intro e; cases e; omega)
  replace hb_g4 := hN4
  refine q_nil (k_then (wc_seq (wc_regionL ?_)))
  refine wl_val (ov_field0 (off := 1) fo34_1 rfl) rfl rfl rfl ?_
  refine wl_val (ov_loadAt oc32 rfl hb_g1 rfl) rfl rfl rfl ?_
  have hz4 := hb_g4.lt
  refine wl_step (or_call0 cl34 rfl rfl (rnew_any _ _ _ _ _ l hr hlen)) rfl rfl rfl ?_
  rintro v w5 ⟨gr, A1, c1, h2, rfl, hb_gr, hr1, hle, he12, hg1, hg2⟩
  replace hr := hr.ext he12
  replace hE := hE.tr he12
  replace hb_g1 := hb_g1.ext he12
  replace hb_g2 := hb_g2.ext he12
  replace hb_g4 := hb_g4.ext he12
  have hz_he12 := he12.size
  have hzr := hb_gr.lt
  refine wl_val (ov_build (cs := [(.pointer (some ⟨g4, 0, none⟩)), (.pointer (some ⟨gr, 0, none⟩)), (.slice none 0 0), (.bool false)]) ze92 pl92 rfl rfl) rfl rfl rfl ?_
  refine wl_step (or_alloc (cs := [(.pointer none), (.pointer none), (.slice none 0 0), (.bool false)]) ze92 rfl) rfl rfl rfl ?_
  rintro v w6 ⟨g5, rfl, hb_g5, he5, hl5, hu5⟩
  replace hr := hr.ext he5
  replace hE := hE.tr he5
  replace hb_g1 := hb_g1.ext he5
  replace hb_g2 := hb_g2.ext he5
  replace hb_g4 := hb_g4.ext he5
  replace hb_gr := hb_gr.ext he5
  replace hr1 := hr1.ext he5
  have hz_he5 := he5.size
  refine wl_step0 (or_storeBlk (vs := [(.pointer (some ⟨g4, 0, none⟩)), (.pointer (some ⟨gr, 0, none⟩)), (.slice none 0 0), (.bool false)]) sz92 rfl rfl (by simp [Value.oneCell']) hb_g5 rfl) rfl rfl ?_
  rintro _ w7 ⟨hN7, hg7⟩
  have hz_hg7 := hg7.size
  replace hr := hr.gr hg7 (fun _ e => by cases e; omega)
  replace hE := hE.gr hg7 (fun _ e => by cases e; omega)
  replace hb_g1 := hb_g1.gr hg7 (by intro e; cases e; omega)
  replace hb_g2 := hb_g2.gr hg7 (by intro e; cases e; omega)
  replace hb_g4 := hb_g4.gr hg7 (by intro e; cases e; omega)
  replace hb_gr := hb_gr.gr hg7 (by intro e; cases e; omega)
  replace hr1 := hr1.gr hg7 (fun _ e => by cases e; omega)
  replace hb_g5 := hN7
  refine q_nil (k_then (wc_seq (wc_regionL ?_)))
  refine wl_step (or_call0 cl40 rfl rfl (partsr _ g5 g4 gr _ _ A1 c1 l hb_g5 hb_gr hr1 (by omega) (by omega) (by omega) (by omega) (↑code.toNat : Int) hb_g4 (by omega) (by omega) (by omega) (by omega) (by omega) (by omega))) rfl rfl rfl ?_
  rintro v w8 ⟨rfl, hN, ⟨A14, c14, hQ, hr14⟩, ⟨K, ck, V, cv, T, ct, hT0, hKk, hVv, hTt⟩, hKp⟩
  have hz_hKp := hKp.size
  replace hr := hKp.rd hr (by intro g hg; simp at hg; omega)
  replace hE := hKp.e0 hE (by intro g hg; simp at hg; omega)
  replace hb_g1 := hKp.bk hb_g1 (by intro hg; simp at hg; omega)
  replace hb_g2 := hKp.bk hb_g2 (by intro hg; simp at hg; omega)
  replace hb_g5 := hN
  replace hb_gr := hQ
  replace hb_g4 := hT0
  refine q_nil (k_then (wc_seq (wc_seq (wc_regionL ?_))))
  refine wl_val (ov_field0 (off := 3) fo92_3 rfl) rfl rfl rfl ?_
  refine wl_val (ov_loadAt oc4 rfl hb_g5 rfl) rfl rfl rfl ?_
  refine wl_spell (d := 16) rfl (v' := (.bool true)) (by rw [h3]) ?_
  refine vm rfl rfl ?_
  iterate 4 refine wl_gskip rfl rfl rfl rfl rfl rfl ?_
  refine wl_val (ov_pick_t rfl rfl) rfl rfl rfl ?_
  refine q_nil (k_then ?_)
  refine wc_cond_t rfl ?_
  refine wc_seq (wc_regionL ?_)
  refine wl_val (ov_build (cs := [(.int .i64 0), (.string (strB [])), (.slice none 0 0), (.slice none 0 0), (.slice none 0 0), (.int .u64 0), (.int .u64 0), (.string (strB [])), (.string (strB [])), (.string (strB []))]) ze58 pl58 rfl rfl) rfl rfl rfl ?_
  refine wl_step0 (or_storeBlk (vs := [(.int .i64 0), (.string (strB [])), (.slice none 0 0), (.slice none 0 0), (.slice none 0 0), (.int .u64 0), (.int .u64 0), (.string (strB [])), (.string (strB [])), (.string (strB []))]) sz58 rfl rfl (by simp [Value.oneCell']) hb_g2 rfl) rfl rfl ?_
  rintro _ w9 ⟨hN9, hg9⟩
  have hz_hg9 := hg9.size
  replace hr := hr.gr hg9 (fun _ e => by cases e; omega)
  replace hE := hE.gr hg9 (fun _ e => by cases e; omega)
  replace hb_g1 := hb_g1.gr hg9 (by intro e; cases e; omega)
  replace hb_g5 := hb_g5.gr hg9 (by intro e; cases e; omega)
  replace hb_gr := hb_gr.gr hg9 (by intro e; cases e; omega)
  replace hb_g4 := hb_g4.gr hg9 (by intro e; cases e; omega)
  replace hr14 := hr14.gr hg9 (fun _ e => by cases e; omega)
  replace hKk := hKk.gr hg9 (fun _ e => by cases e; omega)
  replace hVv := hVv.gr hg9 (fun _ e => by cases e; omega)
  replace hTt := hTt.gr hg9 (fun _ e => by cases e; omega)
  replace hb_g2 := hN9
  refine va rfl rfl ?_
  refine q_nil (k_then (q_ret (k_thenR ?_)))
  refine e_retL (rs := [.cell 2 58, .tmp 3]) (vs := [.agg #[(.int .i64 0), (.string (strB [])), (.slice none 0 0), (.slice none 0 0), (.slice none 0 0), (.int .u64 0), (.int .u64 0), (.string (strB [])), (.string (strB [])), (.string (strB []))], (.int .i64 6)]) rfl ⟨⟨_, _, [(.int .i64 0), (.string (strB [])), (.slice none 0 0), (.slice none 0 0), (.slice none 0 0), (.int .u64 0), (.int .u64 0), (.string (strB [])), (.string (strB [])), (.string (strB []))], rfl, ag58_10, hb_g2, rfl⟩, rfl, trivial⟩ ?_
  exact ⟨none, 0, none, 0, none, 0, rfl, Rd.nil _ _ _ _ _ _ (Nat.zero_le _), Rd.nil _ _ _ _ _ _ (Nat.zero_le _), Rd.nil _ _ _ _ _ _ (Nat.zero_le _), hE⟩

theorem rread_left (w : World) (code : UInt8) (lo hi : Nat) (A : Option Addr) (c : Nat) (l : List UInt8) (hr : RdB w lo hi A c l) (hlen : l.length ≤ 140737488355328) (h1 : 1 ≤ code.toNat) (h2 : code.toNat ≤ 15) (h3 : (rfold (↑code.toNat : Int) l).2.2 = false) (h4 : ¬ (rfold (↑code.toNat : Int) l).2.1.length = 0) (h5 : (rfold (↑code.toNat : Int) l).2.1.length ≤ l.length) :
    Fn Try.prog 24 #[(.agg #[(.int .u8 (↑code.toNat : Int)), (.slice A l.length c)])] w (fun v w' => ∃ K ck V cv T ct, v = .tuple #[.agg (cmdc (cmd0 0) K ck V cv T ct).toArray, .int .i64 6] ∧ RdS w' w.heap.size w'.heap.size K ck (cmd0 0).keys ∧ RdB w' w.heap.size w'.heap.size V cv (cmd0 0).value ∧ RdS w' w.heap.size w'.heap.size T ct (cmd0 0).tags ∧ Ext w w')  := by
  replace hr := hr.top
  have hE := ext_refl w
  have hct := code.toNat_lt
  refine fn_enter (args := [(.agg #[(.int .u8 (↑code.toNat : Int)), (.slice A l.length c)])]) Try.func24 rfl rfl rfl ?_
  show WC _ _ _ _ [(0, (.agg #[(.int .u8 (↑code.toNat : Int)), (.slice A l.length c)]))] _
  refine wc_seq (wc_regionL ?_)
  refine wl_step (or_box (cs := [(.int .u8 (↑code.toNat : Int)), (.slice A l.length c)]) rfl rfl) rfl rfl rfl ?_
  rintro v w1 ⟨g1, rfl, hb_g1, he1, hl1, hu1⟩
  replace hr := hr.ext he1
  replace hE := hE.tr he1
  have hz_he1 := he1.size
  refine wl_step (or_alloc (cs := [(.int .i64 0), (.string (strB [])), (.slice none 0 0), (.slice none 0 0), (.slice none 0 0), (.int .u64 0), (.int .u64 0), (.string (strB [])), (.string (strB [])), (.string (strB []))]) ze58 rfl) rfl rfl rfl ?_
  rintro v w2 ⟨g2, rfl, hb_g2, he2, hl2, hu2⟩
  replace hr := hr.ext he2
  replace hE := hE.tr he2
  replace hb_g1 := hb_g1.ext he2
  have hz_he2 := he2.size
  refine va rfl rfl ?_
  refine q_nil (k_then (wc_seq (wc_regionL ?_)))
  refine wl_val (ov_field0 (off := 0) fo34_0 rfl) rfl rfl rfl ?_
  refine wl_val (ov_loadAt oc5 rfl hb_g1 rfl) rfl rfl rfl ?_
  refine wl_val (ov_conv Try.underlying5 Try.underlying22 rfl (wi64 (by omega) (by omega))) rfl rfl rfl ?_
  refine wl_val (ov_build (cs := [(.int .i64 (↑code.toNat : Int)), (.string (strB [])), (.slice none 0 0), (.slice none 0 0), (.slice none 0 0), (.int .u64 0), (.int .u64 0), (.string (strB [])), (.string (strB [])), (.string (strB []))]) ze58 pl58 rfl rfl) rfl rfl rfl ?_
  refine wl_step (or_alloc (cs := [(.int .i64 0), (.string (strB [])), (.slice none 0 0), (.slice none 0 0), (.slice none 0 0), (.int .u64 0), (.int .u64 0), (.string (strB [])), (.string (strB [])), (.string (strB []))]) ze58 rfl) rfl rfl rfl ?_
  rintro v w3 ⟨g4, rfl, hb_g4, he4, hl4, hu4⟩
  replace hr := hr.ext he4
  replace hE := hE.tr he4
  replace hb_g1 := hb_g1.ext he4
  replace hb_g2 := hb_g2.ext he4
  have hz_he4 := he4.size
  refine wl_step0 (or_storeBlk (vs := [(.int .i64 (↑code.toNat : Int)), (.string (strB [])), (.slice none 0 0), (.slice none 0 0), (.slice none 0 0), (.int .u64 0), (.int .u64 0), (.string (strB [])), (.string (strB [])), (.string (strB []))]) sz58 rfl rfl (by simp [Value.oneCell']) hb_g4 rfl) rfl rfl ?_
  rintro _ w4 ⟨hN4, hg4⟩
  have hz_hg4 := hg4.size
  replace hr := hr.gr hg4 (fun _ e => by cases e; omega)
  replace hE := hE.gr hg4 (fun _ e => by cases e; omega)
  replace hb_g1 := hb_g1.gr hg4 (by intro e; cases e; omega)
  replace hb_g2 := hb_g2.gr hg4 (by intro e; cases e; omega)
  replace hb_g4 := hN4
  refine q_nil (k_then (wc_seq (wc_regionL ?_)))
  refine wl_val (ov_field0 (off := 1) fo34_1 rfl) rfl rfl rfl ?_
  refine wl_val (ov_loadAt oc32 rfl hb_g1 rfl) rfl rfl rfl ?_
  have hz4 := hb_g4.lt
  refine wl_step (or_call0 cl34 rfl rfl (rnew_any _ _ _ _ _ l hr hlen)) rfl rfl rfl ?_
  rintro v w5 ⟨gr, A1, c1, h2, rfl, hb_gr, hr1, hle, he12, hg1, hg2⟩
  replace hr := hr.ext he12
  replace hE := hE.tr he12
  replace hb_g1 := hb_g1.ext he12
  replace hb_g2 := hb_g2.ext he12
  replace hb_g4 := hb_g4.ext he12
  have hz_he12 := he12.size
  have hzr := hb_gr.lt
  refine wl_val (ov_build (cs := [(.pointer (some ⟨g4, 0, none⟩)), (.pointer (some ⟨gr, 0, none⟩)), (.slice none 0 0), (.bool false)]) ze92 pl92 rfl rfl) rfl rfl rfl ?_
  refine wl_step (or_alloc (cs := [(.pointer none), (.pointer none), (.slice none 0 0), (.bool false)]) ze92 rfl) rfl rfl rfl ?_
  rintro v w6 ⟨g5, rfl, hb_g5, he5, hl5, hu5⟩
  replace hr := hr.ext he5
  replace hE := hE.tr he5
  replace hb_g1 := hb_g1.ext he5
  replace hb_g2 := hb_g2.ext he5
  replace hb_g4 := hb_g4.ext he5
  replace hb_gr := hb_gr.ext he5
  replace hr1 := hr1.ext he5
  have hz_he5 := he5.size
  refine wl_step0 (or_storeBlk (vs := [(.pointer (some ⟨g4, 0, none⟩)), (.pointer (some ⟨gr, 0, none⟩)), (.slice none 0 0), (.bool false)]) sz92 rfl rfl (by simp [Value.oneCell']) hb_g5 rfl) rfl rfl ?_
  rintro _ w7 ⟨hN7, hg7⟩
  have hz_hg7 := hg7.size
  replace hr := hr.gr hg7 (fun _ e => by cases e; omega)
  replace hE := hE.gr hg7 (fun _ e => by cases e; omega)
  replace hb_g1 := hb_g1.gr hg7 (by intro e; cases e; omega)
  replace hb_g2 := hb_g2.gr hg7 (by intro e; cases e; omega)
  replace hb_g4 := hb_g4.gr hg7 (by intro e; cases e; omega)
  replace hb_gr := hb_gr.gr hg7 (by intro e; cases e; omega)
  replace hr1 := hr1.gr hg7 (fun _ e => by cases e; omega)
  replace hb_g5 := hN7
  refine q_nil (k_then (wc_seq (wc_regionL ?_)))
  refine wl_step (or_call0 cl40 rfl rfl (partsr _ g5 g4 gr _ _ A1 c1 l hb_g5 hb_gr hr1 (by omega) (by omega) (by omega) (by omega) (↑code.toNat : Int) hb_g4 (by omega) (by omega) (by omega) (by omega) (by omega) (by omega))) rfl rfl rfl ?_
  rintro v w8 ⟨rfl, hN, ⟨A14, c14, hQ, hr14⟩, ⟨K, ck, V, cv, T, ct, hT0, hKk, hVv, hTt⟩, hKp⟩
  have hz_hKp := hKp.size
  replace hr := hKp.rd hr (by intro g hg; simp at hg; omega)
  replace hE := hKp.e0 hE (by intro g hg; simp at hg; omega)
  replace hb_g1 := hKp.bk hb_g1 (by intro hg; simp at hg; omega)
  replace hb_g2 := hKp.bk hb_g2 (by intro hg; simp at hg; omega)
  replace hb_g5 := hN
  replace hb_gr := hQ
  replace hb_g4 := hT0
  refine q_nil (k_then (wc_seq (wc_seq (wc_regionL ?_))))
  refine wl_val (ov_field0 (off := 3) fo92_3 rfl) rfl rfl rfl ?_
  refine wl_val (ov_loadAt oc4 rfl hb_g5 rfl) rfl rfl rfl ?_
  refine wl_spell (d := 16) rfl (v' := (.bool false)) (by rw [h3]) ?_
  refine vm rfl rfl ?_
  refine wl_gval (ov_field0 (off := 1) fo92_1 rfl) rfl rfl rfl rfl rfl ?_
  refine wl_gval (ov_loadAt oc83 rfl hb_g5 rfl) rfl rfl rfl rfl rfl ?_
  refine wl_gval (or_call0 cl36 rfl rfl (left_ok _ gr _ _ A14 c14 (rfold (↑code.toNat : Int) l).2.1 hb_gr hr14 (by omega) (by omega))) rfl rfl rfl rfl rfl ?_
  refine wl_gval (ov_gtr rfl rfl) rfl rfl rfl rfl rfl ?_
  refine wl_spell (d := 21) rfl (bt (by omega)) ?_
  refine wl_val (ov_pick_f rfl rfl) rfl rfl rfl ?_
  refine q_nil (k_then ?_)
  refine wc_cond_t rfl ?_
  refine wc_seq (wc_regionL ?_)
  refine wl_val (ov_build (cs := [(.int .i64 0), (.string (strB [])), (.slice none 0 0), (.slice none 0 0), (.slice none 0 0), (.int .u64 0), (.int .u64 0), (.string (strB [])), (.string (strB [])), (.string (strB []))]) ze58 pl58 rfl rfl) rfl rfl rfl ?_
  refine wl_step0 (or_storeBlk (vs := [(.int .i64 0), (.string (strB [])), (.slice none 0 0), (.slice none 0 0), (.slice none 0 0), (.int .u64 0), (.int .u64 0), (.string (strB [])), (.string (strB [])), (.string (strB []))]) sz58 rfl rfl (by simp [Value.oneCell']) hb_g2 rfl) rfl rfl ?_
  rintro _ w9 ⟨hN9, hg9⟩
  have hz_hg9 := hg9.size
  replace hr := hr.gr hg9 (fun _ e => by cases e; omega)
  replace hE := hE.gr hg9 (fun _ e => by cases e; omega)
  replace hb_g1 := hb_g1.gr hg9 (by intro e; cases e; omega)
  replace hb_g5 := hb_g5.gr hg9 (by intro e; cases e; omega)
  replace hb_gr := hb_gr.gr hg9 (by intro e; cases e; omega)
  replace hb_g4 := hb_g4.gr hg9 (by intro e; cases e; omega)
  replace hr14 := hr14.gr hg9 (fun _ e => by cases e; omega)
  replace hKk := hKk.gr hg9 (fun _ e => by cases e; omega)
  replace hVv := hVv.gr hg9 (fun _ e => by cases e; omega)
  replace hTt := hTt.gr hg9 (fun _ e => by cases e; omega)
  replace hb_g2 := hN9
  refine va rfl rfl ?_
  refine q_nil (k_then (q_ret (k_thenR ?_)))
  refine e_retL (rs := [.cell 2 58, .tmp 3]) (vs := [.agg #[(.int .i64 0), (.string (strB [])), (.slice none 0 0), (.slice none 0 0), (.slice none 0 0), (.int .u64 0), (.int .u64 0), (.string (strB [])), (.string (strB [])), (.string (strB []))], (.int .i64 6)]) rfl ⟨⟨_, _, [(.int .i64 0), (.string (strB [])), (.slice none 0 0), (.slice none 0 0), (.slice none 0 0), (.int .u64 0), (.int .u64 0), (.string (strB [])), (.string (strB [])), (.string (strB []))], rfl, ag58_10, hb_g2, rfl⟩, rfl, trivial⟩ ?_
  exact ⟨none, 0, none, 0, none, 0, rfl, Rd.nil _ _ _ _ _ _ (Nat.zero_le _), Rd.nil _ _ _ _ _ _ (Nat.zero_le _), Rd.nil _ _ _ _ _ _ (Nat.zero_le _), hE⟩

theorem rread_none (w : World) (code : UInt8) (lo hi : Nat) (A : Option Addr) (c : Nat) (l : List UInt8) (hr : RdB w lo hi A c l) (hlen : l.length ≤ 140737488355328) (h1 : code.toNat < 1 ∨ 15 < code.toNat) :
    Fn Try.prog 24 #[(.agg #[(.int .u8 (↑code.toNat : Int)), (.slice A l.length c)])] w (fun v w' => ∃ K ck V cv T ct, v = .tuple #[.agg (cmdc (cmd0 0) K ck V cv T ct).toArray, .int .i64 6] ∧ RdS w' w.heap.size w'.heap.size K ck (cmd0 0).keys ∧ RdB w' w.heap.size w'.heap.size V cv (cmd0 0).value ∧ RdS w' w.heap.size w'.heap.size T ct (cmd0 0).tags ∧ Ext w w')  := by
  replace hr := hr.top
  have hE := ext_refl w
  have hct := code.toNat_lt
  refine fn_enter (args := [(.agg #[(.int .u8 (↑code.toNat : Int)), (.slice A l.length c)])]) Try.func24 rfl rfl rfl ?_
  show WC _ _ _ _ [(0, (.agg #[(.int .u8 (↑code.toNat : Int)), (.slice A l.length c)]))] _
  refine wc_seq (wc_regionL ?_)
  refine wl_step (or_box (cs := [(.int .u8 (↑code.toNat : Int)), (.slice A l.length c)]) rfl rfl) rfl rfl rfl ?_
  rintro v w1 ⟨g1, rfl, hb_g1, he1, hl1, hu1⟩
  replace hr := hr.ext he1
  replace hE := hE.tr he1
  have hz_he1 := he1.size
  refine wl_step (or_alloc (cs := [(.int .i64 0), (.string (strB [])), (.slice none 0 0), (.slice none 0 0), (.slice none 0 0), (.int .u64 0), (.int .u64 0), (.string (strB [])), (.string (strB [])), (.string (strB []))]) ze58 rfl) rfl rfl rfl ?_
  rintro v w2 ⟨g2, rfl, hb_g2, he2, hl2, hu2⟩
  replace hr := hr.ext he2
  replace hE := hE.tr he2
  replace hb_g1 := hb_g1.ext he2
  have hz_he2 := he2.size
  refine va rfl rfl ?_
  refine q_nil (k_then (wc_seq (wc_regionL ?_)))
  refine wl_val (ov_field0 (off := 0) fo34_0 rfl) rfl rfl rfl ?_
  refine wl_val (ov_loadAt oc5 rfl hb_g1 rfl) rfl rfl rfl ?_
  refine wl_val (ov_conv Try.underlying5 Try.underlying22 rfl (wi64 (by omega) (by omega))) rfl rfl rfl ?_
  refine wl_val (ov_build (cs := [(.int .i64 (↑code.toNat : Int)), (.string (strB [])), (.slice none 0 0), (.slice none 0 0), (.slice none 0 0), (.int .u64 0), (.int .u64 0), (.string (strB [])), (.string (strB [])), (.string (strB []))]) ze58 pl58 rfl rfl) rfl rfl rfl ?_
  refine wl_step (or_alloc (cs := [(.int .i64 0), (.string (strB [])), (.slice none 0 0), (.slice none 0 0), (.slice none 0 0), (.int .u64 0), (.int .u64 0), (.string (strB [])), (.string (strB [])), (.string (strB []))]) ze58 rfl) rfl rfl rfl ?_
  rintro v w3 ⟨g4, rfl, hb_g4, he4, hl4, hu4⟩
  replace hr := hr.ext he4
  replace hE := hE.tr he4
  replace hb_g1 := hb_g1.ext he4
  replace hb_g2 := hb_g2.ext he4
  have hz_he4 := he4.size
  refine wl_step0 (or_storeBlk (vs := [(.int .i64 (↑code.toNat : Int)), (.string (strB [])), (.slice none 0 0), (.slice none 0 0), (.slice none 0 0), (.int .u64 0), (.int .u64 0), (.string (strB [])), (.string (strB [])), (.string (strB []))]) sz58 rfl rfl (by simp [Value.oneCell']) hb_g4 rfl) rfl rfl ?_
  rintro _ w4 ⟨hN4, hg4⟩
  have hz_hg4 := hg4.size
  replace hr := hr.gr hg4 (fun _ e => by cases e; omega)
  replace hE := hE.gr hg4 (fun _ e => by cases e; omega)
  replace hb_g1 := hb_g1.gr hg4 (by intro e; cases e; omega)
  replace hb_g2 := hb_g2.gr hg4 (by intro e; cases e; omega)
  replace hb_g4 := hN4
  refine q_nil (k_then (wc_seq (wc_regionL ?_)))
  refine wl_val (ov_field0 (off := 1) fo34_1 rfl) rfl rfl rfl ?_
  refine wl_val (ov_loadAt oc32 rfl hb_g1 rfl) rfl rfl rfl ?_
  have hz4 := hb_g4.lt
  refine wl_step (or_call0 cl34 rfl rfl (rnew_any _ _ _ _ _ l hr hlen)) rfl rfl rfl ?_
  rintro v w5 ⟨gr, A1, c1, h2, rfl, hb_gr, hr1, hle, he12, hg1, hg2⟩
  replace hr := hr.ext he12
  replace hE := hE.tr he12
  replace hb_g1 := hb_g1.ext he12
  replace hb_g2 := hb_g2.ext he12
  replace hb_g4 := hb_g4.ext he12
  have hz_he12 := he12.size
  have hzr := hb_gr.lt
  refine wl_val (ov_build (cs := [(.pointer (some ⟨g4, 0, none⟩)), (.pointer (some ⟨gr, 0, none⟩)), (.slice none 0 0), (.bool false)]) ze92 pl92 rfl rfl) rfl rfl rfl ?_
  refine wl_step (or_alloc (cs := [(.pointer none), (.pointer none), (.slice none 0 0), (.bool false)]) ze92 rfl) rfl rfl rfl ?_
  rintro v w6 ⟨g5, rfl, hb_g5, he5, hl5, hu5⟩
  replace hr := hr.ext he5
  replace hE := hE.tr he5
  replace hb_g1 := hb_g1.ext he5
  replace hb_g2 := hb_g2.ext he5
  replace hb_g4 := hb_g4.ext he5
  replace hb_gr := hb_gr.ext he5
  replace hr1 := hr1.ext he5
  have hz_he5 := he5.size
  refine wl_step0 (or_storeBlk (vs := [(.pointer (some ⟨g4, 0, none⟩)), (.pointer (some ⟨gr, 0, none⟩)), (.slice none 0 0), (.bool false)]) sz92 rfl rfl (by simp [Value.oneCell']) hb_g5 rfl) rfl rfl ?_
  rintro _ w7 ⟨hN7, hg7⟩
  have hz_hg7 := hg7.size
  replace hr := hr.gr hg7 (fun _ e => by cases e; omega)
  replace hE := hE.gr hg7 (fun _ e => by cases e; omega)
  replace hb_g1 := hb_g1.gr hg7 (by intro e; cases e; omega)
  replace hb_g2 := hb_g2.gr hg7 (by intro e; cases e; omega)
  replace hb_g4 := hb_g4.gr hg7 (by intro e; cases e; omega)
  replace hb_gr := hb_gr.gr hg7 (by intro e; cases e; omega)
  replace hr1 := hr1.gr hg7 (fun _ e => by cases e; omega)
  replace hb_g5 := hN7
  refine q_nil (k_then (wc_seq (wc_regionL ?_)))
  refine wl_step (or_call0 cl40 rfl rfl (partsr_d _ g5 g4 gr _ _ A1 c1 l hb_g5 hb_gr hr1 (by omega) (by omega) (by omega) (by omega) (↑code.toNat : Int) hb_g4 (by omega) (by omega) (by omega) (by omega) (by omega))) rfl rfl rfl ?_
  rintro v w8 ⟨rfl, hN, _, hKp⟩
  have hz_hKp := hKp.size
  replace hr := hKp.rd hr (by intro g hg; simp at hg; omega)
  replace hE := hKp.e0 hE (by intro g hg; simp at hg; omega)
  replace hb_g1 := hKp.bk hb_g1 (by intro hg; simp at hg; omega)
  replace hb_g2 := hKp.bk hb_g2 (by intro hg; simp at hg; omega)
  replace hb_g5 := hN
  refine q_nil (k_then (wc_seq (wc_seq (wc_regionL ?_))))
  refine wl_val (ov_field0 (off := 3) fo92_3 rfl) rfl rfl rfl ?_
  refine wl_val (ov_loadAt oc4 rfl hb_g5 rfl) rfl rfl rfl ?_
  refine vm rfl rfl ?_
  iterate 4 refine wl_gskip rfl rfl rfl rfl rfl rfl ?_
  refine wl_val (ov_pick_t rfl rfl) rfl rfl rfl ?_
  refine q_nil (k_then ?_)
  refine wc_cond_t rfl ?_
  refine wc_seq (wc_regionL ?_)
  refine wl_val (ov_build (cs := [(.int .i64 0), (.string (strB [])), (.slice none 0 0), (.slice none 0 0), (.slice none 0 0), (.int .u64 0), (.int .u64 0), (.string (strB [])), (.string (strB [])), (.string (strB []))]) ze58 pl58 rfl rfl) rfl rfl rfl ?_
  refine wl_step0 (or_storeBlk (vs := [(.int .i64 0), (.string (strB [])), (.slice none 0 0), (.slice none 0 0), (.slice none 0 0), (.int .u64 0), (.int .u64 0), (.string (strB [])), (.string (strB [])), (.string (strB []))]) sz58 rfl rfl (by simp [Value.oneCell']) hb_g2 rfl) rfl rfl ?_
  rintro _ w9 ⟨hN9, hg9⟩
  have hz_hg9 := hg9.size
  replace hr := hr.gr hg9 (fun _ e => by cases e; omega)
  replace hE := hE.gr hg9 (fun _ e => by cases e; omega)
  replace hb_g1 := hb_g1.gr hg9 (by intro e; cases e; omega)
  replace hb_g5 := hb_g5.gr hg9 (by intro e; cases e; omega)
  replace hb_g2 := hN9
  refine va rfl rfl ?_
  refine q_nil (k_then (q_ret (k_thenR ?_)))
  refine e_retL (rs := [.cell 2 58, .tmp 3]) (vs := [.agg #[(.int .i64 0), (.string (strB [])), (.slice none 0 0), (.slice none 0 0), (.slice none 0 0), (.int .u64 0), (.int .u64 0), (.string (strB [])), (.string (strB [])), (.string (strB []))], (.int .i64 6)]) rfl ⟨⟨_, _, [(.int .i64 0), (.string (strB [])), (.slice none 0 0), (.slice none 0 0), (.slice none 0 0), (.int .u64 0), (.int .u64 0), (.string (strB [])), (.string (strB [])), (.string (strB []))], rfl, ag58_10, hb_g2, rfl⟩, rfl, trivial⟩ ?_
  exact ⟨none, 0, none, 0, none, 0, rfl, Rd.nil _ _ _ _ _ _ (Nat.zero_le _), Rd.nil _ _ _ _ _ _ (Nat.zero_le _), Rd.nil _ _ _ _ _ _ (Nat.zero_le _), hE⟩

theorem rstep_len (s : Cmd × List UInt8 × Bool) (p : UInt8) : (rstep s p).2.1.length ≤ s.2.1.length := by
  have h1 := partR_len s.2.1
  have h2 := numR_len s.2.1
  have h3 := rlR_len 0 16 s.2.1
  have h4 := rlR_len 1 16 s.2.1
  unfold rstep
  repeat' split
  all_goals assumption
theorem rfold_len0 (ps : List UInt8) (s : Cmd × List UInt8 × Bool) : (ps.foldl rstep s).2.1.length ≤ s.2.1.length := by
  induction ps generalizing s with
  | nil => exact Nat.le_refl _
  | cons p r ih => have h1 := ih (rstep s p); have h2 := rstep_len s p; rw [List.foldl_cons]; omega
theorem rfold_len (op : Int) (l : List UInt8) : (rfold op l).2.1.length ≤ l.length := rfold_len0 _ _

theorem rread_any (w : World) (code : UInt8) (lo hi : Nat) (A : Option Addr) (c : Nat) (l : List UInt8) (hr : RdB w lo hi A c l) (hlen : l.length ≤ 140737488355328) :
    Fn Try.prog 24 #[.agg #[.int .u8 (code.toNat : Int), .slice A l.length c]] w (fun v w' => ∃ K ck V cv T ct, v = .tuple #[.agg (cmdc (rdC code l).1 K ck V cv T ct).toArray, .int .i64 ((rdC code l).2 : Int)] ∧ RdS w' w.heap.size w'.heap.size K ck (rdC code l).1.keys ∧ RdB w' w.heap.size w'.heap.size V cv (rdC code l).1.value ∧ RdS w' w.heap.size w'.heap.size T ct (rdC code l).1.tags ∧ Ext w w') := by
  by_cases h0 : 1 ≤ code.toNat ∧ code.toNat ≤ 15
  · obtain ⟨h1, h2⟩ := h0
    by_cases h3 : (rfold (code.toNat : Int) l).2.2 = true
    · rw [rdC_bad (by rintro ⟨_, _, h, _⟩; rw [h3] at h; cases h)]; exact rread_bad w code lo hi A c l hr hlen h1 h2 h3
    · have h3' : (rfold (code.toNat : Int) l).2.2 = false := by simpa using h3
      by_cases h4 : (rfold (code.toNat : Int) l).2.1 = []
      · rw [rdC_ok h1 h2 h3' h4]; exact rread_ok w code lo hi A c l hr hlen h1 h2 h3' h4
      · rw [rdC_bad (by rintro ⟨_, _, _, h⟩; exact h4 h)]; exact rread_left w code lo hi A c l hr hlen h1 h2 h3' (fun e => h4 (List.eq_nil_of_length_eq_zero e)) (rfold_len _ _)
  · rw [rdC_bad (by rintro ⟨a, b, _⟩; exact h0 ⟨a, b⟩)]; exact rread_none w code lo hi A c l hr hlen (by omega)

end Go.Proofs.Ytohnkjjjejnkpaa
