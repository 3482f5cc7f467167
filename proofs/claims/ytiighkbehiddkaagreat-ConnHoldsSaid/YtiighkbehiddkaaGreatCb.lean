/-
 The contracts of a connection: its steps.
-/
import Derived.Test.YtiighkbehiddkaaGreatCa
namespace Go.Proofs.YtiighkbehiddkaaGreat
open Go.RowKit
set_option linter.unusedVariables false
set_option maxRecDepth 4000
theorem cl40 : callable Tryz.prog 40 = true := by kernel_rfl
theorem cl42 : callable Tryz.prog 42 = true := by kernel_rfl
theorem cl43 : callable Tryz.prog 43 = true := by kernel_rfl
theorem cl44 : callable Tryz.prog 44 = true := by kernel_rfl
theorem cl49 : callable Tryz.prog 49 = true := by kernel_rfl
theorem cl54 : callable Tryz.prog 54 = true := by kernel_rfl
theorem cl55 : callable Tryz.prog 55 = true := by kernel_rfl
theorem cl65 : callable Tryz.prog 65 = true := by kernel_rfl
theorem cl66 : callable Tryz.prog 66 = true := by kernel_rfl
theorem cl75 : callable Tryz.prog 75 = true := by kernel_rfl
theorem fo57_1 : fieldOff Tryz.prog 57 1 = some 1 := by kernel_rfl
theorem fo57_4 : fieldOff Tryz.prog 57 4 = some 6 := by kernel_rfl
theorem fo57_5 : fieldOff Tryz.prog 57 5 = some 16 := by kernel_rfl
theorem fo57_6 : fieldOff Tryz.prog 57 6 = some 22 := by kernel_rfl
theorem sz33 : (Tryz.prog.info? 33).map (·.size) = some 1 := by kernel_rfl
/-- A step of a connection: its new state, and what was kept. -/
def CnTo (w w' : World) (g : Nat) (S : List Nat) (a b : Nat) (s' : Cn) : Prop := ∃ S' a' b', Cnn w' g S' a' b' s' ∧ Kp S w w' ∧ (∀ x ∈ S', x ∈ S ∨ w.heap.size ≤ x) ∧ ((a' = a ∧ b' = b) ∨ w.heap.size ≤ a')
theorem CnTo.of {w w' : World} {g a b a' b' : Nat} {s' : Cn} (p p' : CnP) (hb : Blk w' g 57 (cnc s' p')) (hR : CnR w' g a' b' s' p') (hk : Kp (cnS g p) w w') (hS : ∀ x ∈ cnS g p', x ∈ cnS g p ∨ w.heap.size ≤ x) (hab : (a' = a ∧ b' = b) ∨ w.heap.size ≤ a') : CnTo w w' g (cnS g p) a b s' := ⟨_, _, _, ⟨p', rfl, hb, hR⟩, hk, hS, hab⟩
theorem rspok_e (op e : Int) : RspOk (rspO op e) := ⟨by show (0 : Nat) < _; decide, (fun x hx => by cases hx), (fun x hx => by cases hx), by show (0 : Int) ≤ _; decide⟩
theorem rsz_e (op e : Int) : rsz (rspO op e) ≤ 4398046511104 := by show 0 + 10 * 0 + 100 ≤ _; decide
theorem dnx_len (s : Cn) : (cnNx s).2.1.length ≤ s.held.length := by
 unfold cnNx dnext
 split
 ·exact Nat.le_refl _
 ·show (List.drop _ _).length ≤ _
  rw [List.length_drop]; omega
theorem dnx_pay (s : Cn) : (cnNx s).2.2.1.2.length ≤ s.held.length := by
 unfold cnNx dnext
 split
 ·exact Nat.zero_le _
 ·exact (fread_props s.held (s.cp : Int)).1
theorem rdC_not {x : UInt8} {l : List UInt8} (h : ¬ ((rdC x l).2 : Int) = 0) : rdC x l = (cmd0 0, 6) := by
 by_cases q : 1 ≤ x.toNat ∧ x.toNat ≤ 15 ∧ (rfold (x.toNat : Int) l).2.2 = false ∧ (rfold (x.toNat : Int) l).2.1 = []
 ·rw [rdC_ok q.1 q.2.1 q.2.2.1 q.2.2.2] at h; exact absurd rfl h
 ·exact rdC_bad q
theorem cnRd_4 {s : Cn} (h : (cnNx s).2.2.2 = 4) : cnRd s = (cnD s, 0) := if_pos h
theorem cnRd_c {s : Cn} (h : ¬ (cnNx s).2.2.2 = 4) (h0 : (cnNx s).2.2.2 = 0) (hc : (cnCm s).2 = 0) : cnRd s = ({ cnD s with cmd := (cnCm s).1, ph := 2 }, 1) := (if_neg h).trans ((if_pos h0).trans (if_pos hc))
theorem cnRd_b {s : Cn} (h : ¬ (cnNx s).2.2.2 = 4) (h0 : (cnNx s).2.2.2 = 0) (hc : ¬ (cnCm s).2 = 0) : cnRd s = (cnW (cnD s) (rspO 0 ((cnCm s).2 : Int)), 2) := (if_neg h).trans ((if_pos h0).trans (if_neg hc))
theorem cnRd_e {s : Cn} (h : ¬ (cnNx s).2.2.2 = 4) (h0 : ¬ (cnNx s).2.2.2 = 0) : cnRd s = (cnW (cnD s) (rspO 0 ((cnNx s).2.2.2 : Int)), 2) := (if_neg h).trans (if_neg h0)
theorem CnR.cmd0 {w : World} {g a b : Nat} {s : Cn} {p : CnP} (h : CnR w g a b s p) {lo hi : Nat} {K : Option Addr} {ck : Nat} {V : Option Addr} {cv : Nat} {T : Option Addr} {ct : Nat} (hK : RdS w lo hi K ck []) (hV : RdB w lo hi V cv []) (hT : RdS w lo hi T ct []) : CnR w g a b { s with cmd := cmd0 0 } (cnPc p K ck V cv T ct) where
 buf := h.buf
 dec := h.dec
 hK := Rd.zero hK
 hV := Rd.zero hV
 hT := Rd.zero hT
 hv := h.hv
 hx := h.hx
 hn := h.hn
 hA := h.hA
 sep := h.sep
 hb := h.hb
 ne1 := h.ne1
 ne2 := h.ne2
 ne3 := h.ne3
 dd := h.dd
 ok := ⟨h.ok.p1, h.ok.p2, h.ok.i1, h.ok.i2, h.ok.o1, h.ok.hl, h.ok.h1, h.ok.h4, h.ok.sz, h.ok.bl, h.ok.an, ⟨Nat.zero_le _, Nat.zero_le _, Nat.zero_le _⟩⟩
theorem ball_cases (m : Nat) (l q : List UInt8) : (m - l.length < q.length ∧ ball m l q = (l, 0, 7)) ∨ (¬ m - l.length < q.length ∧ ball m l q = (l ++ q, q.length, 0)) := by
 by_cases h : m - l.length < q.length
 ·exact .inl ⟨h, bal_full h⟩
 ·exact .inr ⟨h, bal_ok h⟩
theorem cwrite_ok (w : World) (g a b : Nat) (s : Cn) (gb gd : Nat) (Db Dd : Option Nat) (K : Option Addr) (ck : Nat) (V : Option Addr) (cv : Nat) (T : Option Addr) (ct : Nat) (X : Option Addr) (cx : Nat) (xs : List IT) (N : Option Addr) (cn : Nat) (A : Option Addr) (c : Nat) (hb_g : Blk w g 57 (cnc s (⟨gb, gd, Db, Dd, K, ck, V, cv, T, ct, X, cx, xs, N, cn, A, c⟩ : CnP))) (hR : CnR w g a b s (⟨gb, gd, Db, Dd, K, ck, V, cv, T, ct, X, cx, xs, N, cn, A, c⟩ : CnP)) (r : Rsp) (xs9 : List IT) (hv9 : vals xs9 = r.items) (lo9 hi9 : Nat) (X9 : Option Addr) (cx9 : Nat) (N9 : Option Addr) (cn9 : Nat) (hx9 : RdI w lo9 hi9 X9 cx9 xs9) (hn9 : RdN w lo9 hi9 N9 cn9 r.nums) (hrk : RspOk r) (hrz : rsz r ≤ 4398046511104) (hlo9 : ∀ x ∈ cnS g (⟨gb, gd, Db, Dd, K, ck, V, cv, T, ct, X, cx, xs, N, cn, A, c⟩ : CnP), x < lo9) (hl9 : lo9 ≤ w.heap.size) (hh9 : hi9 ≤ w.heap.size) :
  Fn Tryz.prog 54 #[(.pointer (some ⟨g, 0, none⟩)), (.agg #[(.int .i64 r.op), (.int .i64 r.err), (.slice X9 r.items.length cx9), (.int .u64 (↑r.ver : Int)), (.int .i64 r.count), (.slice N9 r.nums.length cn9)])] w (fun v w' => v = .tuple #[] ∧ ∃ A' c', Blk w' g 57 (cnc (cnW s r) (cnPw (⟨gb, gd, Db, Dd, K, ck, V, cv, T, ct, X, cx, xs, N, cn, A, c⟩ : CnP) X9 cx9 xs9 N9 cn9 A' c')) ∧ CnR w' g lo9 w'.heap.size (cnW s r) (cnPw (⟨gb, gd, Db, Dd, K, ck, V, cv, T, ct, X, cx, xs, N, cn, A, c⟩ : CnP) X9 cx9 xs9 N9 cn9 A' c') ∧ Kp (cnS g (⟨gb, gd, Db, Dd, K, ck, V, cv, T, ct, X, cx, xs, N, cn, A, c⟩ : CnP)) w w')  := by
 replace hb_g : Blk w g 57 [(.pointer (some ⟨gb, 0, none⟩)), (.int .i64 (↑s.ci : Int)), (.int .i64 (↑s.co : Int)), (.int .i64 (↑s.cp : Int)), (.pointer (some ⟨gd, 0, none⟩)), (.int .i64 (↑s.ph : Int)), (.int .i64 s.cmd.op), (.string (strB s.cmd.key)), (.slice K s.cmd.keys.length ck), (.slice V s.cmd.value.length cv), (.slice T s.cmd.tags.length ct), (.int .u64 (↑s.cmd.life : Int)), (.int .u64 (↑s.cmd.ver : Int)), (.string (strB s.cmd.tag)), (.string (strB s.cmd.pre)), (.string (strB s.cmd.child)), (.int .i64 s.ans.op), (.int .i64 s.ans.err), (.slice X s.ans.items.length cx), (.int .u64 (↑s.ans.ver : Int)), (.int .i64 s.ans.count), (.slice N s.ans.nums.length cn), (.slice A s.bs.length c)] := hb_g
 have hW := hR.bnd
 have hgl := hb_g.lt
 have hok := hR.ok
 obtain ⟨kp1, kp2, ki1, ki2, ko1, khl, kph1, kph4, ksz, kbl, kan, kcb⟩ := id hok
 have hne1 := hR.ne1
 have hne2 := hR.ne2
 have hne3 := hR.ne3
 have hgl9 : g < lo9 := hlo9 _ (mem_cng _ _)
 have hwl := wrR_len r
 have hKS := Kp.refl (cnS g (⟨gb, gd, Db, Dd, K, ck, V, cv, T, ct, X, cx, xs, N, cn, A, c⟩ : CnP)) w
 refine fn_enter (args := [(.pointer (some ⟨g, 0, none⟩)), (.agg #[(.int .i64 r.op), (.int .i64 r.err), (.slice X9 r.items.length cx9), (.int .u64 (↑r.ver : Int)), (.int .i64 r.count), (.slice N9 r.nums.length cn9)])]) Tryz.func54 rfl rfl rfl ?_
 show WC _ _ _ _ [(0, (.pointer (some ⟨g, 0, none⟩))), (1, (.agg #[(.int .i64 r.op), (.int .i64 r.err), (.slice X9 r.items.length cx9), (.int .u64 (↑r.ver : Int)), (.int .i64 r.count), (.slice N9 r.nums.length cn9)]))] _
 refine wc_seq (wc_regionL ?_)
 refine wl_step (or_box (cs := [(.int .i64 r.op), (.int .i64 r.err), (.slice X9 r.items.length cx9), (.int .u64 (↑r.ver : Int)), (.int .i64 r.count), (.slice N9 r.nums.length cn9)]) rfl rfl) rfl rfl rfl ?_
 rintro v w1 ⟨g3, rfl, hb_g3, he3, hl3, hu3⟩
 replace hb_g := hb_g.ext he3
 replace hR := hR.ext he3
 replace hKS := Kp.te hKS he3
 replace hx9 := RdI.ext hx9 he3
 replace hn9 := hn9.ext he3
 have hz_he3 := he3.size
 refine q_nil (k_then (wc_seq (wc_regionL ?_)))
 refine wl_val (ov_loadBlk (cs := [(.int .i64 r.op), (.int .i64 r.err), (.slice X9 r.items.length cx9), (.int .u64 (↑r.ver : Int)), (.int .i64 r.count), (.slice N9 r.nums.length cn9)]) ag43_6 rfl hb_g3) rfl rfl rfl ?_
 refine wl_step (or_call0 cl74 rfl rfl (wr8_write _ r xs9 hv9 _ _ X9 cx9 N9 cn9 hx9 hn9 hrk hrz)) rfl rfl rfl ?_
 rintro v w2 ⟨A8, c8, rfl, ho8, he8⟩
 replace hb_g := hb_g.ext he8
 replace hR := hR.ext he8
 replace hKS := Kp.te hKS he8
 replace hx9 := RdI.ext hx9 he8
 replace hn9 := hn9.ext he8
 replace hb_g3 := hb_g3.ext he8
 have hz_he8 := he8.size
 have hq_ho8 := fun g e => Own.lt ho8 (g := g) e
 refine vm rfl rfl ?_
 iterate 2 refine vx rfl rfl rfl ?_
 refine wl_step (or_alloc (cs := [(.int .u8 0), (.slice none 0 0)]) ze117 rfl) rfl rfl rfl ?_
 rintro v w3 ⟨g4, rfl, hb_g4, he4, hl4, hu4⟩
 replace hb_g := hb_g.ext he4
 replace hR := hR.ext he4
 replace hKS := Kp.te hKS he4
 replace hx9 := RdI.ext hx9 he4
 replace hn9 := hn9.ext he4
 replace hb_g3 := hb_g3.ext he4
 replace ho8 := Own.ext ho8 he4
 have hz_he4 := he4.size
 refine wl_step0 (or_storeBlk (vs := [(.int .u8 (↑(wrR r).1.1.toNat : Int)), (.slice A8 (wrR r).1.2.length c8)]) sz117 rfl rfl (by simp [Value.oneCell']) hb_g4 rfl) rfl rfl ?_
 rintro _ w4 ⟨hN4, hg4⟩
 have hz_hg4 := hg4.size
 replace hb_g := hb_g.gr hg4 (by intro e; cases e; omega)
 replace hR := by first | exact hR.grg hg4 | exact hR.grf hg4 hW (by omega)
 replace hKS := Kp.tg hKS hg4 (by first | exact .inl (mem_cng _ _) | (right; omega))
 replace hx9 := RdI.gr hx9 hg4 (fun _ e => by cases e; omega)
 replace hn9 := hn9.gr hg4 (fun _ e => by cases e; omega)
 replace hb_g3 := hb_g3.gr hg4 (by intro e; cases e; omega)
 replace ho8 := Own.gr ho8 hg4 (by first | exact .inl rfl | (right; intro e; first | (have := hq_ho8 _ e; omega) | (have := Own.lt ho8 e; omega) | exact own_blk_ne ho8 hb_g4 (by decide) e))
 replace hb_g4 := hN4
 refine va rfl rfl ?_
 refine q_nil (k_then (wc_seq ?_))
 refine wc_drawA mixed ?_
 intro w5 hx2
 replace hb_g := hb_g.ext hx2
 replace hR := hR.ext hx2
 replace hKS := Kp.te hKS hx2
 replace hx9 := RdI.ext hx9 hx2
 replace hn9 := hn9.ext hx2
 replace hb_g3 := hb_g3.ext hx2
 replace ho8 := Own.ext ho8 hx2
 replace hb_g4 := hb_g4.ext hx2
 have hz_hx2 := hx2.size
 refine wa_main (Fam (BelS w5.heap.size [g])) (fam1 (bels_ext)) (fam2 (bels_tr)) (fam3 (bels_ext) (bels_tr)) 0 11 [(11, eqv (.pointer (some ⟨g, 0, none⟩))), (12, eqv (.pointer (some ⟨g, 0, none⟩))), (13, eqv (.pointer (some ⟨g, 0, none⟩))), (14, eqv (.agg #[(.int .i64 0), (.string (strB [])), (.slice none 0 0), (.slice none 0 0), (.slice none 0 0), (.int .u64 0), (.int .u64 0), (.string (strB [])), (.string (strB [])), (.string (strB []))])), (15, eqv (.agg #[(.int .i64 r.op), (.int .i64 r.err), (.slice X9 r.items.length cx9), (.int .u64 (↑r.ver : Int)), (.int .i64 r.count), (.slice N9 r.nums.length cn9)])), (16, eqv (.pointer (some ⟨g, 0, none⟩))), (17, eqv (.pointer (some ⟨g, 5, none⟩))), (37, (fun _ w => Blk w g 57 [(.pointer (some ⟨gb, 0, none⟩)), (.int .i64 (↑s.ci : Int)), (.int .i64 (↑s.co : Int)), (.int .i64 (↑s.cp : Int)), (.pointer (some ⟨gd, 0, none⟩)), (.int .i64 3), (.int .i64 s.cmd.op), (.string (strB s.cmd.key)), (.slice K s.cmd.keys.length ck), (.slice V s.cmd.value.length cv), (.slice T s.cmd.tags.length ct), (.int .u64 (↑s.cmd.life : Int)), (.int .u64 (↑s.cmd.ver : Int)), (.string (strB s.cmd.tag)), (.string (strB s.cmd.pre)), (.string (strB s.cmd.child)), (.int .i64 s.ans.op), (.int .i64 s.ans.err), (.slice X s.ans.items.length cx), (.int .u64 (↑s.ans.ver : Int)), (.int .i64 s.ans.count), (.slice N s.ans.nums.length cn), (.slice A s.bs.length c)])), (18, eqv (.pointer (some ⟨g, 0, none⟩))), (19, eqv (.pointer (some ⟨g, 6, none⟩))), (40, (fun _ w => Blk w g 57 [(.pointer (some ⟨gb, 0, none⟩)), (.int .i64 (↑s.ci : Int)), (.int .i64 (↑s.co : Int)), (.int .i64 (↑s.cp : Int)), (.pointer (some ⟨gd, 0, none⟩)), (.int .i64 3), (.int .i64 0), (.string (strB [])), (.slice none 0 0), (.slice none 0 0), (.slice none 0 0), (.int .u64 0), (.int .u64 0), (.string (strB [])), (.string (strB [])), (.string (strB [])), (.int .i64 s.ans.op), (.int .i64 s.ans.err), (.slice X s.ans.items.length cx), (.int .u64 (↑s.ans.ver : Int)), (.int .i64 s.ans.count), (.slice N s.ans.nums.length cn), (.slice A s.bs.length c)]))] [[], [], [], [], [], [0], [5], [6], [1], [8], [3, 7, 9]] [[0], [0], [0], [0], [0], [0], [0], [], [0], [0], []] [[], [0], [0], [0], [0], [], [], [], [0], [0], [0]] [none, none, none, none, none, none, none, some 0, none, none, some 0] [true, true, true, true, true, true, true, false, true, true, true] [0] _ [] [] (fun _ _ h => h) trivial (by kernel_rfl) rfl ⟨stbA (fun _ => stb_eqv _) _, stbA (fun _ => stb_eqv _) _, stbA (fun _ => stb_eqv _) _, stbA (fun _ => stb_eqv _) _, stbA (fun _ => stb_eqv _) _, stbA (fun _ => stb_eqv _) _, stbA (fun _ => stb_eqv _) _, stb0 ((fun _ w w' hb he => hb.ext he)), stbA (fun _ => stb_eqv _) _, stbA (fun _ => stb_eqv _) _, stb0 ((fun _ w w' hb he => hb.ext he)), trivial⟩ ⟨?_, ?_, ?_, ?_, ?_, ?_, ?_, ?_, ?_, ?_, ?_, trivial⟩ ?_
 ·intro wd hxE
  have hz_hxE := hxE.size
  show OpG _ _ _ _ _ _
  exact og_plain rfl (ox_val (ov_move rfl))
 ·intro wd hxE
  have hk_hxE := bels_out hxE
  obtain ⟨cs_g, hcs_g, hb_g⟩ := bels_blk hxE (by simp) hb_g
  have hz_hk_hxE := hk_hxE.size
  show OpG _ _ _ _ _ _
  exact og_plain rfl (ox_val (ov_move rfl))
 ·intro wd hxE
  have hk_hxE := bels_out hxE
  obtain ⟨cs_g, hcs_g, hb_g⟩ := bels_blk hxE (by simp) hb_g
  have hz_hk_hxE := hk_hxE.size
  show OpG _ _ _ _ _ _
  exact og_plain rfl (ox_val (ov_move rfl))
 ·intro wd hxE
  have hk_hxE := bels_out hxE
  obtain ⟨cs_g, hcs_g, hb_g⟩ := bels_blk hxE (by simp) hb_g
  have hz_hk_hxE := hk_hxE.size
  show OpG _ _ _ _ _ _
  exact og_plain rfl (ox_val (ov_build (cs := [(.int .i64 0), (.string (strB [])), (.slice none 0 0), (.slice none 0 0), (.slice none 0 0), (.int .u64 0), (.int .u64 0), (.string (strB [])), (.string (strB [])), (.string (strB []))]) ze39 pl39 rfl rfl))
 ·intro wd hxE
  have hk_hxE := bels_out hxE
  obtain ⟨cs_g, hcs_g, hb_g⟩ := bels_blk hxE (by simp) hb_g
  have hz_hk_hxE := hk_hxE.size
  replace hb_g3 := hk_hxE.bk hb_g3 (by intro hg; simp at hg; omega)
  show OpG _ _ _ _ _ _
  exact og_plain rfl (ox_val (ov_loadBlk (cs := [(.int .i64 r.op), (.int .i64 r.err), (.slice X9 r.items.length cx9), (.int .u64 (↑r.ver : Int)), (.int .i64 r.count), (.slice N9 r.nums.length cn9)]) ag43_6 rfl hb_g3))
 ·intro wd hxE
  have hz_hxE := hxE.size
  rintro _ rfl
  show OpG _ _ _ _ _ _
  exact og_plain rfl (ox_val (ov_nilCheck rfl))
 ·intro wd hxE
  have hz_hxE := hxE.size
  rintro _ rfl
  show OpG _ _ _ _ _ _
  exact og_plain rfl (ox_val (ov_field0 (off := 5) fo57_3 rfl))
 ·intro wd hxE
  replace hb_g := hb_g.ext hxE
  have hz_hxE := hxE.size
  rintro _ rfl
  show OpG _ _ _ _ _ _
  have hb0 := hb_g
  refine og_plain rfl (OpRun.mono (or_storeAt (cs' := [(.pointer (some ⟨gb, 0, none⟩)), (.int .i64 (↑s.ci : Int)), (.int .i64 (↑s.co : Int)), (.int .i64 (↑s.cp : Int)), (.pointer (some ⟨gd, 0, none⟩)), (.int .i64 3), (.int .i64 s.cmd.op), (.string (strB s.cmd.key)), (.slice K s.cmd.keys.length ck), (.slice V s.cmd.value.length cv), (.slice T s.cmd.tags.length ct), (.int .u64 (↑s.cmd.life : Int)), (.int .u64 (↑s.cmd.ver : Int)), (.string (strB s.cmd.tag)), (.string (strB s.cmd.pre)), (.string (strB s.cmd.child)), (.int .i64 s.ans.op), (.int .i64 s.ans.err), (.slice X s.ans.items.length cx), (.int .u64 (↑s.ans.ver : Int)), (.int .i64 s.ans.count), (.slice N s.ans.nums.length cn), (.slice A s.bs.length c)]) sz33 rfl rfl rfl hb_g rfl rfl) ?_)
  rintro _ w6 ⟨hN6, hg6⟩
  have hz_hg6 := hg6.size
  replace hb_g := hN6
  exact ⟨hb_g, bels_store hg6 (by simp) hb0 hb_g rfl⟩
 ·intro wd hxE
  have hk_hxE := bels_out hxE
  obtain ⟨cs_g, hcs_g, hb_g⟩ := bels_blk hxE (by simp) hb_g
  have hz_hk_hxE := hk_hxE.size
  rintro _ rfl
  show OpG _ _ _ _ _ _
  exact og_plain rfl (ox_val (ov_nilCheck rfl))
 ·intro wd hxE
  have hk_hxE := bels_out hxE
  obtain ⟨cs_g, hcs_g, hb_g⟩ := bels_blk hxE (by simp) hb_g
  have hz_hk_hxE := hk_hxE.size
  rintro _ rfl
  show OpG _ _ _ _ _ _
  exact og_plain rfl (ox_val (ov_field0 (off := 6) fo57_4 rfl))
 ·intro wd hxE
  have hk_hxE := bels_out hxE
  obtain ⟨cs_g, hcs_g, hb_g⟩ := bels_blk hxE (by simp) hb_g
  have hz_hk_hxE := hk_hxE.size
  rintro _ rfl
  rintro _ hb_g
  rintro _ rfl
  show OpG _ _ _ _ _ _
  have hb0 := hb_g
  refine og_plain rfl (OpRun.mono (or_storePart (vs := [(.int .i64 0), (.string (strB [])), (.slice none 0 0), (.slice none 0 0), (.slice none 0 0), (.int .u64 0), (.int .u64 0), (.string (strB [])), (.string (strB [])), (.string (strB []))]) (cs' := [(.pointer (some ⟨gb, 0, none⟩)), (.int .i64 (↑s.ci : Int)), (.int .i64 (↑s.co : Int)), (.int .i64 (↑s.cp : Int)), (.pointer (some ⟨gd, 0, none⟩)), (.int .i64 3), (.int .i64 0), (.string (strB [])), (.slice none 0 0), (.slice none 0 0), (.slice none 0 0), (.int .u64 0), (.int .u64 0), (.string (strB [])), (.string (strB [])), (.string (strB [])), (.int .i64 s.ans.op), (.int .i64 s.ans.err), (.slice X s.ans.items.length cx), (.int .u64 (↑s.ans.ver : Int)), (.int .i64 s.ans.count), (.slice N s.ans.nums.length cn), (.slice A s.bs.length c)]) sz39 rfl rfl (by simp [Value.oneCell']) hb_g rfl rfl) ?_)
  rintro _ w6 ⟨hN6, hg6⟩
  have hz_hg6 := hg6.size
  replace hb_g := hN6
  exact ⟨hb_g, bels_store hg6 (by simp) hb0 hb_g rfl⟩
 ·intro wf2 hf2
  have hk_hf2 := bels_out hf2
  obtain ⟨cs_g, hcs_g, hb_g⟩ := bels_blk hf2 (by simp) hb_g
  have hz_hk_hf2 := hk_hf2.size
  replace hR := hR.kpg hk_hf2
  replace hKS := Kp.tr hKS hk_hf2 (fun x hx => .inl (by rw [List.mem_singleton.1 hx]; exact mem_cng _ _))
  replace hx9 := RdI.kp hx9 hk_hf2 (by intro g hg; simp at hg; omega)
  replace hn9 := hk_hf2.rd hn9 (by intro g hg; simp at hg; omega)
  replace ho8 := hk_hf2.own ho8 (by intro g e hg; simp at hg; have := hq_ho8 g e; omega)
  replace hb_g4 := hk_hf2.bk hb_g4 (by intro hg; simp at hg; omega)
  rintro _ rfl
  rintro _ rfl
  rintro _ rfl
  rintro _ rfl
  rintro _ rfl
  rintro _ rfl
  rintro _ rfl
  intro v37
  rintro _ rfl
  rintro _ rfl
  rintro _ hb_g
  refine wa_tail (by kernel_rfl) ?_
  show WL _ _ _ [_, _, _] _ _ _
  refine vn rfl rfl ?_
  refine wl_val (ov_field0 (off := 16) fo57_5 rfl) rfl rfl rfl ?_
  refine wl_step0 (or_storePart (vs := [(.int .i64 r.op), (.int .i64 r.err), (.slice X9 r.items.length cx9), (.int .u64 (↑r.ver : Int)), (.int .i64 r.count), (.slice N9 r.nums.length cn9)]) (cs' := [(.pointer (some ⟨gb, 0, none⟩)), (.int .i64 (↑s.ci : Int)), (.int .i64 (↑s.co : Int)), (.int .i64 (↑s.cp : Int)), (.pointer (some ⟨gd, 0, none⟩)), (.int .i64 3), (.int .i64 0), (.string (strB [])), (.slice none 0 0), (.slice none 0 0), (.slice none 0 0), (.int .u64 0), (.int .u64 0), (.string (strB [])), (.string (strB [])), (.string (strB [])), (.int .i64 r.op), (.int .i64 r.err), (.slice X9 r.items.length cx9), (.int .u64 (↑r.ver : Int)), (.int .i64 r.count), (.slice N9 r.nums.length cn9), (.slice A s.bs.length c)]) sz43 rfl rfl (by simp [Value.oneCell']) hb_g rfl rfl) rfl rfl ?_
  rintro _ w6 ⟨hN6, hg6⟩
  have hz_hg6 := hg6.size
  replace hR := by first | exact hR.grg hg6 | exact hR.grf hg6 hW (by omega)
  replace hKS := Kp.tg hKS hg6 (by first | exact .inl (mem_cng _ _) | (right; omega))
  replace hx9 := RdI.gr hx9 hg6 (fun _ e => by cases e; omega)
  replace hn9 := hn9.gr hg6 (fun _ e => by cases e; omega)
  replace ho8 := Own.gr ho8 hg6 (by first | exact .inl rfl | (right; intro e; first | (have := hq_ho8 _ e; omega) | (have := Own.lt ho8 e; omega) | exact own_blk_ne ho8 hb_g (by decide) e))
  replace hb_g4 := hb_g4.gr hg6 (by intro e; cases e; omega)
  replace hb_g := hN6
  refine q_nil (k_then (wc_regionL ?_))
  refine vm rfl rfl ?_
  refine wl_val (ov_loadBlk (cs := [(.int .u8 (↑(wrR r).1.1.toNat : Int)), (.slice A8 (wrR r).1.2.length c8)]) ag117_2 rfl hb_g4) rfl rfl rfl ?_
  refine wl_step (or_call0 cl75 rfl rfl (fwrite_any _ _ _ ((wrR r).1.1) _ _ (wrR r).1.2 (OwnB.rd ho8) (by omega))) rfl rfl rfl ?_
  rintro v w7 ⟨A25, c25, rfl, ho25, he25⟩
  replace hR := hR.ext he25
  replace hKS := Kp.te hKS he25
  replace hx9 := RdI.ext hx9 he25
  replace hn9 := hn9.ext he25
  replace hb_g := hb_g.ext he25
  have hz_he25 := he25.size
  have hq_ho25 := fun g e => Own.lt ho25 (g := g) e
  refine vm rfl rfl ?_
  iterate 2 refine vx rfl rfl rfl ?_
  refine vn rfl rfl ?_
  refine wl_val (ov_field0 (off := 22) fo57_6 rfl) rfl rfl rfl ?_
  refine wl_step0 (or_storeAt (cs' := [(.pointer (some ⟨gb, 0, none⟩)), (.int .i64 (↑s.ci : Int)), (.int .i64 (↑s.co : Int)), (.int .i64 (↑s.cp : Int)), (.pointer (some ⟨gd, 0, none⟩)), (.int .i64 3), (.int .i64 0), (.string (strB [])), (.slice none 0 0), (.slice none 0 0), (.slice none 0 0), (.int .u64 0), (.int .u64 0), (.string (strB [])), (.string (strB [])), (.string (strB [])), (.int .i64 r.op), (.int .i64 r.err), (.slice X9 r.items.length cx9), (.int .u64 (↑r.ver : Int)), (.int .i64 r.count), (.slice N9 r.nums.length cn9), (.slice A25 (fwrite ((wrR r).1.1) (wrR r).1.2).1.length c25)]) sz32 rfl rfl rfl hb_g rfl rfl) rfl rfl ?_
  rintro _ w8 ⟨hN8, hg8⟩
  have hz_hg8 := hg8.size
  replace hR := by first | exact hR.grg hg8 | exact hR.grf hg8 hW (by omega)
  replace hKS := Kp.tg hKS hg8 (by first | exact .inl (mem_cng _ _) | (right; omega))
  replace hx9 := RdI.gr hx9 hg8 (fun _ e => by cases e; omega)
  replace hn9 := hn9.gr hg8 (fun _ e => by cases e; omega)
  replace ho25 := Own.gr ho25 hg8 (by first | exact .inl rfl | (right; intro e; first | (have := hq_ho25 _ e; omega) | (have := Own.lt ho25 e; omega) | exact own_blk_ne ho25 hb_g (by decide) e))
  replace hb_g := hN8
  refine q_nil ?_
  refine e_end0 rfl ?_
  exact ⟨rfl, A25, c25, hb_g, CnR.put hR hlo9 (by omega) hv9 (RdI.top hx9) (Rd.top hn9) ((OwnB.rd ho25).mono (by omega) (Nat.le_refl _)) hrz, hKS⟩
theorem cdel_ok (w : World) (g a b : Nat) (s : Cn) (gb gd : Nat) (Db Dd : Option Nat) (K : Option Addr) (ck : Nat) (V : Option Addr) (cv : Nat) (T : Option Addr) (ct : Nat) (X : Option Addr) (cx : Nat) (xs : List IT) (N : Option Addr) (cn : Nat) (A : Option Addr) (c : Nat) (hb_g : Blk w g 57 (cnc s (⟨gb, gd, Db, Dd, K, ck, V, cv, T, ct, X, cx, xs, N, cn, A, c⟩ : CnP))) (hR : CnR w g a b s (⟨gb, gd, Db, Dd, K, ck, V, cv, T, ct, X, cx, xs, N, cn, A, c⟩ : CnP)) (lo2 hi2 : Nat) (B : Option Addr) (c2 : Nat) (q : List UInt8) (hr2 : RdB w lo2 hi2 B c2 q) (hq2 : ∀ x ∈ cnS g (⟨gb, gd, Db, Dd, K, ck, V, cv, T, ct, X, cx, xs, N, cn, A, c⟩ : CnP), x < lo2 ∨ hi2 ≤ x) (hlq : q.length ≤ 1099511627776) :
  Fn Tryz.prog 16 #[(.pointer (some ⟨g, 0, none⟩)), (.slice B q.length c2)] w (fun v w' => v = .tuple #[.int .i64 ((cnDel s q).2.1 : Int), .int .i64 ((cnDel s q).2.2 : Int)] ∧ CnTo w w' g (cnS g (⟨gb, gd, Db, Dd, K, ck, V, cv, T, ct, X, cx, xs, N, cn, A, c⟩ : CnP)) a b (cnDel s q).1)  := by
 replace hb_g : Blk w g 57 [(.pointer (some ⟨gb, 0, none⟩)), (.int .i64 (↑s.ci : Int)), (.int .i64 (↑s.co : Int)), (.int .i64 (↑s.cp : Int)), (.pointer (some ⟨gd, 0, none⟩)), (.int .i64 (↑s.ph : Int)), (.int .i64 s.cmd.op), (.string (strB s.cmd.key)), (.slice K s.cmd.keys.length ck), (.slice V s.cmd.value.length cv), (.slice T s.cmd.tags.length ct), (.int .u64 (↑s.cmd.life : Int)), (.int .u64 (↑s.cmd.ver : Int)), (.string (strB s.cmd.tag)), (.string (strB s.cmd.pre)), (.string (strB s.cmd.child)), (.int .i64 s.ans.op), (.int .i64 s.ans.err), (.slice X s.ans.items.length cx), (.int .u64 (↑s.ans.ver : Int)), (.int .i64 s.ans.count), (.slice N s.ans.nums.length cn), (.slice A s.bs.length c)] := hb_g
 have hW := hR.bnd
 have hgl := hb_g.lt
 have hok := hR.ok
 obtain ⟨kp1, kp2, ki1, ki2, ko1, khl, kph1, kph4, ksz, kbl, kan, kcb⟩ := id hok
 have hne1 := hR.ne1
 have hne2 := hR.ne2
 have hne3 := hR.ne3
 have hKS := Kp.refl (cnS g (⟨gb, gd, Db, Dd, K, ck, V, cv, T, ct, X, cx, xs, N, cn, A, c⟩ : CnP)) w
 refine fn_enter (args := [(.pointer (some ⟨g, 0, none⟩)), (.slice B q.length c2)]) Tryz.func16 rfl rfl rfl ?_
 show WC _ _ _ _ [(0, (.pointer (some ⟨g, 0, none⟩))), (1, (.slice B q.length c2))] _
 refine wc_seq (wc_regionL ?_)
 iterate 2 refine va rfl rfl ?_
 refine q_nil (k_then (wc_seq (wc_seq (wc_regionL ?_))))
 refine vm rfl rfl ?_
 refine wl_val (or_call0 cl39 rfl rfl (czero_ok _ g s gb gd Db Dd K ck V cv T ct X cx xs N cn A c hb_g)) rfl rfl rfl ?_
 refine q_nil (k_then ?_)
 refine wc_cond_f rfl ?_
 refine q_skip (k_then (wc_seq (wc_seq (wc_regionL ?_))))
 refine vm rfl rfl ?_
 refine vn rfl rfl ?_
 refine wl_val (ov_field0 (off := 4) fo57_2 rfl) rfl rfl rfl ?_
 refine wl_val (ov_loadAt oc55 rfl hb_g rfl) rfl rfl rfl ?_
 refine wl_step (or_call0 cl40 rfl rfl (dclosed_ok _ 0 gd Dd s.cp s.cl s.held hR.dec (by omega))) rfl rfl rfl ?_
 rintro v w1 ⟨rfl, he13⟩
 replace hb_g := hb_g.ext he13
 replace hR := hR.ext he13
 replace hKS := Kp.te hKS he13
 replace hr2 := hr2.ext he13
 have hz_he13 := he13.size
 refine q_nil (k_then ?_)
 refine wc_cond rfl (fun hc2 => ?_) (fun hc2 => ?_)
 ·refine wc_seq (wc_regionL ?_)
  iterate 2 refine va rfl rfl ?_
  refine q_nil (k_then (q_ret (k_thenR ?_)))
  refine e_ret2 rfl rfl rfl ?_
  have e : cnDel s q = (s, 0, 14) := if_pos (by simpa using hc2)
  rw [e]
  exact ⟨rfl, CnTo.of (⟨gb, gd, Db, Dd, K, ck, V, cv, T, ct, X, cx, xs, N, cn, A, c⟩ : CnP) (⟨gb, gd, Db, Dd, K, ck, V, cv, T, ct, X, cx, xs, N, cn, A, c⟩ : CnP) hb_g hR hKS (fun x h => .inl h) (.inl ⟨rfl, rfl⟩)⟩
 ·have hcf : s.cl = false := by cases h : s.cl with
   | false => rfl
   | true => exact absurd h (by simpa using hc2)
  have hdh : dheld s.cl s.held = s.held.length := by rw [hcf]; rfl
  refine q_skip (k_then (wc_seq ?_))
  refine wc_draw mixed 13 [(14, eqv (.slice B q.length c2)), (15, eqv (.int .i64 (↑q.length : Int))), (16, eqv (.pointer (some ⟨g, 0, none⟩))), (17, eqv (.pointer (some ⟨g, 0, none⟩))), (18, eqv (.pointer (some ⟨g, 1, none⟩))), (19, eqv (.pointer (some ⟨g, 1, none⟩))), (20, eqv (.int .i64 (↑s.ci : Int))), (21, eqv (.pointer (some ⟨g, 0, none⟩))), (22, eqv (.pointer (some ⟨g, 0, none⟩))), (23, eqv (.pointer (some ⟨g, 4, none⟩))), (24, eqv (.pointer (some ⟨gd, 0, none⟩))), (25, eqv (.int .i64 (↑(dheld s.cl s.held) : Int))), (26, eqv (.int .i64 ((↑s.ci : Int) - (↑(dheld s.cl s.held) : Int))))] [[], [0], [], [2], [3], [4], [5], [], [7], [8], [9], [10], [6, 11]] _ [] [] (fun _ _ h => h) trivial (by kernel_rfl) rfl ⟨⟨stb_eqv _, fun _ he => by cases he⟩, ⟨stb_eqv _, fun _ he => by cases he⟩, ⟨stb_eqv _, fun _ he => by cases he⟩, ⟨stb_eqv _, fun _ he => by cases he⟩, ⟨stb_eqv _, fun _ he => by cases he⟩, ⟨stb_eqv _, fun _ he => by cases he⟩, ⟨stb_eqv _, fun _ he => by cases he⟩, ⟨stb_eqv _, fun _ he => by cases he⟩, ⟨stb_eqv _, fun _ he => by cases he⟩, ⟨stb_eqv _, fun _ he => by cases he⟩, ⟨stb_eqv _, fun _ he => by cases he⟩, ⟨stb_eqv _, fun _ he => by cases he⟩, ⟨stb_eqv _, fun _ he => by cases he⟩, trivial⟩ ⟨?_, ?_, ?_, ?_, ?_, ?_, ?_, ?_, ?_, ?_, ?_, ?_, ?_, trivial⟩ ?_
  ·intro wd hxE
   have hz_hxE := hxE.size
   show OpG _ _ _ _ _ _
   exact og_plain rfl (ox_val (ov_move rfl))
  ·intro wd hxE
   have hz_hxE := hxE.size
   rintro _ rfl
   show OpG _ _ _ _ _ _
   exact og_plain rfl (ox_val (ov_len Tryz.underlying32 rfl))
  ·intro wd hxE
   have hz_hxE := hxE.size
   show OpG _ _ _ _ _ _
   exact og_plain rfl (ox_val (ov_move rfl))
  ·intro wd hxE
   have hz_hxE := hxE.size
   rintro _ rfl
   show OpG _ _ _ _ _ _
   exact og_plain rfl (ox_val (ov_nilCheck rfl))
  ·intro wd hxE
   have hz_hxE := hxE.size
   rintro _ rfl
   show OpG _ _ _ _ _ _
   exact og_plain rfl (ox_val (ov_field0 (off := 1) fo57_1 rfl))
  ·intro wd hxE
   have hz_hxE := hxE.size
   rintro _ rfl
   show OpG _ _ _ _ _ _
   exact og_plain rfl (ox_val (ov_field0 (off := 0) fo23_0 rfl))
  ·intro wd hxE
   replace hb_g := hb_g.ext hxE
   have hz_hxE := hxE.size
   rintro _ rfl
   show OpG _ _ _ _ _ _
   exact og_plain rfl (ox_val (ov_loadAt oc3 rfl hb_g rfl))
  ·intro wd hxE
   have hz_hxE := hxE.size
   show OpG _ _ _ _ _ _
   exact og_plain rfl (ox_val (ov_move rfl))
  ·intro wd hxE
   have hz_hxE := hxE.size
   rintro _ rfl
   show OpG _ _ _ _ _ _
   exact og_plain rfl (ox_val (ov_nilCheck rfl))
  ·intro wd hxE
   have hz_hxE := hxE.size
   rintro _ rfl
   show OpG _ _ _ _ _ _
   exact og_plain rfl (ox_val (ov_field0 (off := 4) fo57_2 rfl))
  ·intro wd hxE
   replace hb_g := hb_g.ext hxE
   have hz_hxE := hxE.size
   rintro _ rfl
   show OpG _ _ _ _ _ _
   exact og_plain rfl (ox_val (ov_loadAt oc55 rfl hb_g rfl))
  ·intro wd hxE
   replace hR := hR.ext hxE
   have hz_hxE := hxE.size
   rintro _ rfl
   show OpG _ _ _ _ _ _
   refine og_plain rfl (OpRun.mono (or_call0 cl41 rfl rfl (dheld_ok _ 0 gd Dd s.cp s.cl s.held hR.dec (by omega))) ?_)
   rintro v w202 ⟨rfl, he25⟩
   have hz_he25 := he25.size
   exact ⟨rfl, he25⟩
  ·intro wd hxE
   have hz_hxE := hxE.size
   rintro _ rfl
   rintro _ rfl
   show OpG _ _ _ _ _ _
   exact og_plain rfl (ox_val (ov_sub rfl rfl (wi64 (by omega) (by omega))))
  ·intro wf5 hf5
   replace hb_g := hb_g.ext hf5
   replace hR := hR.ext hf5
   replace hKS := Kp.te hKS hf5
   replace hr2 := hr2.ext hf5
   have hz_hf5 := hf5.size
   rintro _ rfl
   rintro _ rfl
   rintro _ rfl
   rintro _ rfl
   rintro _ rfl
   rintro _ rfl
   rintro _ rfl
   rintro _ rfl
   rintro _ rfl
   rintro _ rfl
   rintro _ rfl
   rintro _ rfl
   rintro _ rfl
   show WL _ _ _ [_, _] _ _ _
   refine wl_val (ov_min rfl rfl (m := ((min q.length (s.ci - s.held.length) : Nat) : Int)) (by omega)) rfl rfl rfl ?_
   refine va rfl rfl ?_
   refine q_nil (k_then (wc_seq ?_))
   refine wc_drawA mixed ?_
   intro w202 hx6
   replace hb_g := hb_g.ext hx6
   replace hR := hR.ext hx6
   replace hKS := Kp.te hKS hx6
   replace hr2 := hr2.ext hx6
   have hz_hx6 := hx6.size
   refine wa_main (Fam ((fun a b => Ch gd Dd a b))) (fam1 ((fun _ _ h => Ch.of_ext h))) (fam2 ((fun _ _ _ h k => h.tr k (fun x e => .inl e)))) (fam3 ((fun _ _ h => Ch.of_ext h)) ((fun _ _ _ h k => h.tr k (fun x e => .inl e)))) 0 9 [(28, eqv (.int .i64 ((min q.length (s.ci - s.held.length) : Nat) : Int))), (29, eqv (.pointer (some ⟨g, 0, none⟩))), (30, eqv (.pointer (some ⟨g, 0, none⟩))), (31, eqv (.pointer (some ⟨g, 4, none⟩))), (32, eqv (.pointer (some ⟨gd, 0, none⟩))), (33, eqv (.slice B q.length c2)), (34, eqv (.int .i64 ((min q.length (s.ci - s.held.length) : Nat) : Int))), (35, (fun v wz => ∃ A c, v = .slice A (q.take (min q.length (s.ci - s.held.length))).length c ∧ RdB wz lo2 hi2 A c (q.take (min q.length (s.ci - s.held.length))))), (36, (fun v wz => v = .int .i64 (dchk s.cl : Int) ∧ ∃ D', Dec wz 0 gd D' s.cp s.cl (dfeed s.cl s.held (q.take (min q.length (s.ci - s.held.length)))) ∧ Nx w202 Dd D'))] [[], [], [1], [2], [3], [], [], [5, 6], [4, 7]] [[0], [0], [0], [0], [0], [0], [0], [], []] [[0], [0], [0], [0], [0], [0], [0], [0], []] [none, none, none, none, none, none, none, none, some 0] [true, true, true, true, true, true, true, false, true] [0] _ [] [] (fun _ _ h => h) trivial (by kernel_rfl) rfl ⟨stbA (fun _ => stb_eqv _) _, stbA (fun _ => stb_eqv _) _, stbA (fun _ => stb_eqv _) _, stbA (fun _ => stb_eqv _) _, stbA (fun _ => stb_eqv _) _, stbA (fun _ => stb_eqv _) _, stbA (fun _ => stb_eqv _) _, stb0 ((fun v w w' ⟨A, c, hv, ho⟩ he => ⟨A, c, hv, ho.ext he⟩)), stb0 ((fun v w w' ⟨hv, D, h, hN⟩ he => ⟨hv, D, h.ext he, hN⟩)), trivial⟩ ⟨?_, ?_, ?_, ?_, ?_, ?_, ?_, ?_, ?_, trivial⟩ ?_
   ·intro wd hxE
    have hz_hxE := hxE.size
    show OpG _ _ _ _ _ _
    exact og_plain rfl (ox_val (ov_move rfl))
   ·intro wd hxE
    have hz_hxE := hxE.size
    show OpG _ _ _ _ _ _
    exact og_plain rfl (ox_val (ov_move rfl))
   ·intro wd hxE
    have hz_hxE := hxE.size
    rintro _ rfl
    show OpG _ _ _ _ _ _
    exact og_plain rfl (ox_val (ov_nilCheck rfl))
   ·intro wd hxE
    have hz_hxE := hxE.size
    rintro _ rfl
    show OpG _ _ _ _ _ _
    exact og_plain rfl (ox_val (ov_field0 (off := 4) fo57_2 rfl))
   ·intro wd hxE
    have hz_hxE := hxE.size
    replace hb_g := hxE.bk hb_g hne1.2.1 hne3.1
    rintro _ rfl
    show OpG _ _ _ _ _ _
    exact og_plain rfl (ox_val (ov_loadAt oc55 rfl hb_g rfl))
   ·intro wd hxE
    have hz_hxE := hxE.size
    show OpG _ _ _ _ _ _
    exact og_plain rfl (ox_val (ov_move rfl))
   ·intro wd hxE
    have hz_hxE := hxE.size
    show OpG _ _ _ _ _ _
    exact og_plain rfl (ox_val (ov_move rfl))
   ·intro wd hxE
    have hz_hxE := hxE.size
    replace hr2 := hxE.rd hr2 (hq2 _ (mem_gd g (⟨gb, gd, Db, Dd, K, ck, V, cv, T, ct, X, cx, xs, N, cn, A, c⟩ : CnP))) (fun x e => hq2 x (mem_Dd e))
    rintro _ rfl
    rintro _ rfl
    show OpG _ _ _ _ _ _
    have hcap35 := RdB.cap hr2
    refine og_plain rfl (OpRun.mono (or_bslice bt32 rfl hr2 (bounds_h rfl (by omega) (by omega)) (by omega) (by omega) (by omega) (by omega)) ?_)
    rintro v _ ⟨rfl, A35, c35, rfl, hr35, hl35⟩
    have hs35 : (q.drop 0).take ((Int.toNat ((min q.length (s.ci - s.held.length) : Nat) : Int)) - 0) = (q.take (min q.length (s.ci - s.held.length))) := (by rw [List.drop_zero, Nat.sub_zero, Int.toNat_natCast])
    rw [hs35] at hr35 hl35; rw [hs35]; clear hs35
    exact ⟨⟨A35, c35, rfl, hr35⟩, ext_refl _⟩
   ·intro wd hxE
    replace hR := hR.ext hxE
    have hz_hxE := hxE.size
    rintro _ rfl
    rintro _ ⟨A35, c35, rfl, hr35⟩
    show OpG _ _ _ _ _ _
    refine og_plain rfl (OpRun.mono (or_call0 cl42 rfl rfl (dfeed_ok _ 0 gd Dd s.cp s.cl s.held hR.dec (by omega) _ _ _ _ (q.take (min q.length (s.ci - s.held.length))) hr35 (hq2 _ (mem_gd g (⟨gb, gd, Db, Dd, K, ck, V, cv, T, ct, X, cx, xs, N, cn, A, c⟩ : CnP))) (fun x e => hq2 x (mem_Dd e)) (Nat.zero_le _) (by rw [List.length_take]; omega))) ?_)
    rintro v w203 ⟨rfl, ⟨D36, hdec36, hN36⟩, hC36⟩
    exact ⟨⟨rfl, D36, hdec36, hN36.mono (by omega)⟩, hC36⟩
   ·intro wf6 hf6
    have hR0 := hR
    replace hf6 : Ch gd Dd _ _ := hf6
    have hz_hf6 := hf6.size
    replace hb_g := hf6.bk hb_g hne1.2.1 hne3.1
    replace hKS := hKS.chd hf6
    rintro _ rfl
    rintro _ rfl
    rintro _ rfl
    rintro _ rfl
    rintro _ rfl
    rintro _ rfl
    rintro _ rfl
    intro v35
    rintro _ ⟨rfl, D36, hdec36, hN36⟩
    refine wa_tail (by kernel_rfl) ?_
    show WL _ _ _ [_, _] _ _ _
    iterate 2 refine va rfl rfl ?_
    refine q_nil (k_then (q_ret ?_))
    refine e_ret2 rfl rfl rfl ?_
    have e : cnDel s q = ({ s with held := s.held ++ (q.take (min q.length (s.ci - s.held.length))) }, min q.length (s.ci - s.held.length), 0) := if_neg (by rw [hcf]; decide)
    rw [e]
    have hlq2 : (q.take (min q.length (s.ci - s.held.length))).length ≤ s.ci - s.held.length := by rw [List.length_take]; omega
    have hd2 : Dec wf6 0 gd D36 s.cp s.cl (s.held ++ (q.take (min q.length (s.ci - s.held.length)))) := by rw [hcf] at hdec36 ⊢; exact hdec36
    have hR2 := hR0.decTo hf6 hd2 hN36 (by show (s.held ++ (q.take (min q.length (s.ci - s.held.length)))).length ≤ _; rw [List.length_append]; omega)
    exact ⟨by rw [hcf]; rfl, CnTo.of (⟨gb, gd, Db, Dd, K, ck, V, cv, T, ct, X, cx, xs, N, cn, A, c⟩ : CnP) (cnPd (⟨gb, gd, Db, Dd, K, ck, V, cv, T, ct, X, cx, xs, N, cn, A, c⟩ : CnP) D36) hb_g hR2 hKS (fun x h => (cnS_d hN36 h).imp id (fun h => by omega)) (.inl ⟨rfl, rfl⟩)⟩
theorem cdrain_ok (w : World) (g a b : Nat) (s : Cn) (gb gd : Nat) (Db Dd : Option Nat) (K : Option Addr) (ck : Nat) (V : Option Addr) (cv : Nat) (T : Option Addr) (ct : Nat) (X : Option Addr) (cx : Nat) (xs : List IT) (N : Option Addr) (cn : Nat) (A : Option Addr) (c : Nat) (hb_g : Blk w g 57 (cnc s (⟨gb, gd, Db, Dd, K, ck, V, cv, T, ct, X, cx, xs, N, cn, A, c⟩ : CnP))) (hR : CnR w g a b s (⟨gb, gd, Db, Dd, K, ck, V, cv, T, ct, X, cx, xs, N, cn, A, c⟩ : CnP)) (n : Int) (hn1 : -9223372036854775808 ≤ n) (hn2 : n ≤ 9223372036854775807) (ht : s.tk ≤ 4611686018427387904) :
  Fn Tryz.prog 20 #[(.pointer (some ⟨g, 0, none⟩)), (.int .i64 n)] w (fun v w' => ∃ B c2, v = .tuple #[.slice B (bpeek s.out n).1.length c2, .int .i64 ((bpeek s.out n).2 : Int)] ∧ OwnB w' w.heap.size 5 B c2 (bpeek s.out n).1 ∧ CnTo w w' g (cnS g (⟨gb, gd, Db, Dd, K, ck, V, cv, T, ct, X, cx, xs, N, cn, A, c⟩ : CnP)) a b (cnDr s n).1)  := by
 replace hb_g : Blk w g 57 [(.pointer (some ⟨gb, 0, none⟩)), (.int .i64 (↑s.ci : Int)), (.int .i64 (↑s.co : Int)), (.int .i64 (↑s.cp : Int)), (.pointer (some ⟨gd, 0, none⟩)), (.int .i64 (↑s.ph : Int)), (.int .i64 s.cmd.op), (.string (strB s.cmd.key)), (.slice K s.cmd.keys.length ck), (.slice V s.cmd.value.length cv), (.slice T s.cmd.tags.length ct), (.int .u64 (↑s.cmd.life : Int)), (.int .u64 (↑s.cmd.ver : Int)), (.string (strB s.cmd.tag)), (.string (strB s.cmd.pre)), (.string (strB s.cmd.child)), (.int .i64 s.ans.op), (.int .i64 s.ans.err), (.slice X s.ans.items.length cx), (.int .u64 (↑s.ans.ver : Int)), (.int .i64 s.ans.count), (.slice N s.ans.nums.length cn), (.slice A s.bs.length c)] := hb_g
 have hW := hR.bnd
 have hgl := hb_g.lt
 have hok := hR.ok
 obtain ⟨kp1, kp2, ki1, ki2, ko1, khl, kph1, kph4, ksz, kbl, kan, kcb⟩ := id hok
 have hne1 := hR.ne1
 have hne2 := hR.ne2
 have hne3 := hR.ne3
 have hKS := Kp.refl (cnS g (⟨gb, gd, Db, Dd, K, ck, V, cv, T, ct, X, cx, xs, N, cn, A, c⟩ : CnP)) w
 refine fn_enter (args := [(.pointer (some ⟨g, 0, none⟩)), (.int .i64 n)]) Tryz.func20 rfl rfl rfl ?_
 show WC _ _ _ _ [(0, (.pointer (some ⟨g, 0, none⟩))), (1, (.int .i64 n))] _
 refine wc_seq (wc_regionL ?_)
 iterate 2 refine va rfl rfl ?_
 refine q_nil (k_then (wc_seq (wc_seq (wc_regionL ?_))))
 refine vm rfl rfl ?_
 refine wl_val (or_call0 cl39 rfl rfl (czero_ok _ g s gb gd Db Dd K ck V cv T ct X cx xs N cn A c hb_g)) rfl rfl rfl ?_
 refine q_nil (k_then ?_)
 refine wc_cond_f rfl ?_
 refine q_skip (k_then (wc_seq (wc_regionL ?_)))
 refine vm rfl rfl ?_
 refine vn rfl rfl ?_
 refine wl_val (ov_field0 (off := 0) fo57_0 rfl) rfl rfl rfl ?_
 refine wl_val (ov_loadAt oc54 rfl hb_g rfl) rfl rfl rfl ?_
 refine vm rfl rfl ?_
 refine wl_step (or_call0 cl49 rfl rfl (btake_ok _ 0 gb Db s.co s.out s.pt s.tk hR.buf n hn1 hn2 ht (Nat.zero_le _))) rfl rfl rfl ?_
 rintro v w1 ⟨A13, c13, rfl, ho13, hbuf13, hC13⟩
 have hz13 := hC13.size
 replace hb_g := hC13.bk hb_g hR.ne1.1 hR.ne2.1
 replace hKS := hKS.chb hC13
 have hR2 := hR.bufTo hC13 hbuf13 (Nx.refl _ _)
 iterate 2 refine vx rfl rfl rfl ?_
 iterate 2 refine va rfl rfl ?_
 refine q_nil (k_then (q_ret ?_))
 refine e_ret2 rfl rfl rfl ?_
 exact ⟨A13, c13, rfl, Own.mono ho13 (by omega), CnTo.of (⟨gb, gd, Db, Dd, K, ck, V, cv, T, ct, X, cx, xs, N, cn, A, c⟩ : CnP) (cnPb (⟨gb, gd, Db, Dd, K, ck, V, cv, T, ct, X, cx, xs, N, cn, A, c⟩ : CnP) Db) hb_g hR2 hKS (fun x h => .inl h) (.inl ⟨rfl, rfl⟩)⟩
theorem cread_ok (w : World) (g a b : Nat) (s : Cn) (gb gd : Nat) (Db Dd : Option Nat) (K : Option Addr) (ck : Nat) (V : Option Addr) (cv : Nat) (T : Option Addr) (ct : Nat) (X : Option Addr) (cx : Nat) (xs : List IT) (N : Option Addr) (cn : Nat) (A : Option Addr) (c : Nat) (hb_g : Blk w g 57 (cnc s (⟨gb, gd, Db, Dd, K, ck, V, cv, T, ct, X, cx, xs, N, cn, A, c⟩ : CnP))) (hR : CnR w g a b s (⟨gb, gd, Db, Dd, K, ck, V, cv, T, ct, X, cx, xs, N, cn, A, c⟩ : CnP)) (h1 : s.ph = 1) :
  Fn Tryz.prog 43 #[(.pointer (some ⟨g, 0, none⟩))] w (fun v w' => v = .int .i64 ((cnRd s).2 : Int) ∧ CnTo w w' g (cnS g (⟨gb, gd, Db, Dd, K, ck, V, cv, T, ct, X, cx, xs, N, cn, A, c⟩ : CnP)) a b (cnRd s).1)  := by
 replace hb_g : Blk w g 57 [(.pointer (some ⟨gb, 0, none⟩)), (.int .i64 (↑s.ci : Int)), (.int .i64 (↑s.co : Int)), (.int .i64 (↑s.cp : Int)), (.pointer (some ⟨gd, 0, none⟩)), (.int .i64 (↑s.ph : Int)), (.int .i64 s.cmd.op), (.string (strB s.cmd.key)), (.slice K s.cmd.keys.length ck), (.slice V s.cmd.value.length cv), (.slice T s.cmd.tags.length ct), (.int .u64 (↑s.cmd.life : Int)), (.int .u64 (↑s.cmd.ver : Int)), (.string (strB s.cmd.tag)), (.string (strB s.cmd.pre)), (.string (strB s.cmd.child)), (.int .i64 s.ans.op), (.int .i64 s.ans.err), (.slice X s.ans.items.length cx), (.int .u64 (↑s.ans.ver : Int)), (.int .i64 s.ans.count), (.slice N s.ans.nums.length cn), (.slice A s.bs.length c)] := hb_g
 have hW := hR.bnd
 have hgl := hb_g.lt
 have hok := hR.ok
 obtain ⟨kp1, kp2, ki1, ki2, ko1, khl, kph1, kph4, ksz, kbl, kan, kcb⟩ := id hok
 have hne1 := hR.ne1
 have hne2 := hR.ne2
 have hne3 := hR.ne3
 have hdp := dnx_pay s
 have hKS := Kp.refl (cnS g (⟨gb, gd, Db, Dd, K, ck, V, cv, T, ct, X, cx, xs, N, cn, A, c⟩ : CnP)) w
 refine fn_enter (args := [(.pointer (some ⟨g, 0, none⟩))]) Tryz.func43 rfl rfl rfl ?_
 show WC _ _ _ _ [(0, (.pointer (some ⟨g, 0, none⟩)))] _
 refine wc_seq (wc_regionL ?_)
 refine va rfl rfl ?_
 refine q_nil (k_then (wc_seq (wc_regionL ?_)))
 refine vm rfl rfl ?_
 refine vn rfl rfl ?_
 refine wl_val (ov_field0 (off := 4) fo57_2 rfl) rfl rfl rfl ?_
 refine wl_val (ov_loadAt oc55 rfl hb_g rfl) rfl rfl rfl ?_
 refine wl_step (or_call0 cl65 rfl rfl (dnext_ok _ 0 gd Dd s.cp s.cl s.held hR.dec (by omega))) rfl rfl rfl ?_
 rintro v w1 ⟨A10, c10, rfl, ho10, hdec10, hC10⟩
 have hz10 := hC10.size
 replace hb_g := hC10.bk hb_g hR.ne1.2.1 hR.ne3.1
 replace hKS := hKS.chd hC10
 replace hR : CnR w1 g a b (cnD s) (⟨gb, gd, Db, Dd, K, ck, V, cv, T, ct, X, cx, xs, N, cn, A, c⟩ : CnP) := hR.decTo hC10 hdec10 (Nx.refl _ _) (by have := dnx_len s; show (cnNx s).2.1.length ≤ s.ci; omega)
 refine wl_spell (d := 10) rfl (v' := (.tuple #[(.agg #[(.int .u8 (↑(cnNx s).2.2.1.1.toNat : Int)), (.slice A10 (cnNx s).2.2.1.2.length c10)]), (.int .i64 (↑(cnNx s).2.2.2 : Int))])) rfl ?_
 have hq_ho10 := fun g e => Own.lt ho10 (g := g) e
 refine vm rfl rfl ?_
 iterate 2 refine vx rfl rfl rfl ?_
 refine wl_step (or_alloc (cs := [(.int .u8 0), (.slice none 0 0)]) ze117 rfl) rfl rfl rfl ?_
 rintro v w2 ⟨g3, rfl, hb_g3, he3, hl3, hu3⟩
 replace hb_g := hb_g.ext he3
 replace hR := hR.ext he3
 replace hKS := Kp.te hKS he3
 replace ho10 := Own.ext ho10 he3
 have hz_he3 := he3.size
 refine wl_step0 (or_storeBlk (vs := [(.int .u8 (↑(cnNx s).2.2.1.1.toNat : Int)), (.slice A10 (cnNx s).2.2.1.2.length c10)]) sz117 rfl rfl (by simp [Value.oneCell']) hb_g3 rfl) rfl rfl ?_
 rintro _ w3 ⟨hN3, hg3⟩
 have hz_hg3 := hg3.size
 replace hb_g := hb_g.gr hg3 (by intro e; cases e; omega)
 replace hR := by first | exact hR.grg hg3 | exact hR.grf hg3 hW (by omega)
 replace hKS := Kp.tg hKS hg3 (by first | exact .inl (mem_cng _ _) | (right; omega))
 replace ho10 := Own.gr ho10 hg3 (by first | exact .inl rfl | (right; intro e; first | (have := hq_ho10 _ e; omega) | (have := Own.lt ho10 e; omega) | exact own_blk_ne ho10 hb_g3 (by decide) e))
 replace hb_g3 := hN3
 refine va rfl rfl ?_
 refine q_nil (k_then (wc_seq (wc_seq (wc_regionL ?_))))
 refine vm rfl rfl ?_
 refine q_nil (k_then (wc_block (wc_seq (wc_block (wc_seq (wc_block (wc_seq (wc_block (wc_seq (wc_seq (wc_seq (wc_regionL ?_))))))))))))
 refine ve rfl rfl rfl ?_
 refine va rfl rfl ?_
 refine q_nil (k_then ?_)
 refine wc_cond_d rfl (fun hc1 => ?_) (fun hc1 => ?_)
 ·refine q_exit (k_thenX (k_thenX (k_blockE (k_then (wc_seq (wc_seq (wc_regionL ?_)))))))
  refine va rfl rfl ?_
  refine q_nil (k_then (q_ret (k_thenR (k_blockR (k_thenR (k_blockR (k_thenR (k_blockR (k_thenR ?_)))))))))
  refine e_ret rfl rfl ?_
  rw [cnRd_4 (s := s) (by omega)]
  exact ⟨rfl, CnTo.of (⟨gb, gd, Db, Dd, K, ck, V, cv, T, ct, X, cx, xs, N, cn, A, c⟩ : CnP) (⟨gb, gd, Db, Dd, K, ck, V, cv, T, ct, X, cx, xs, N, cn, A, c⟩ : CnP) hb_g hR hKS (fun x h => .inl h) (.inl ⟨rfl, rfl⟩)⟩
 ·refine q_skip (k_then (wc_seq (wc_regionL ?_)))
  refine ve rfl rfl rfl ?_
  refine va rfl rfl ?_
  refine q_nil (k_then ?_)
  refine wc_cond_d rfl (fun hc2 => ?_) (fun hc2 => ?_)
  ·refine q_exit (k_thenX ?_)
   refine k_blockX rfl ?_
   refine k_thenX (k_blockE (k_then (wc_seq (wc_regionL ?_))))
   refine vm rfl rfl ?_
   refine wl_val (ov_loadBlk (cs := [(.int .u8 (↑(cnNx s).2.2.1.1.toNat : Int)), (.slice A10 (cnNx s).2.2.1.2.length c10)]) ag117_2 rfl hb_g3) rfl rfl rfl ?_
   obtain ⟨W21, hW21⟩ : ∃ n, n = w3.heap.size := ⟨_, rfl⟩
   refine wl_step (or_call0 cl66 rfl rfl (rread_any _ (cnNx s).2.2.1.1 _ _ A10 c10 (cnNx s).2.2.1.2 (OwnB.rd ho10) (by first | omega | decide | (simp; done)))) rfl rfl rfl ?_
   rintro v w204 ⟨K21, ck21, V21, cv21, T21, ct21, rfl, hK21, hV21, hT21, he21⟩
   replace hb_g := hb_g.ext he21
   replace hR := hR.ext he21
   replace hKS := Kp.te hKS he21
   have hz_he21 := he21.size
   refine vm rfl rfl ?_
   iterate 2 refine vx rfl rfl rfl ?_
   refine vn rfl rfl ?_
   refine wl_val (ov_field0 (off := 6) fo57_4 rfl) rfl rfl rfl ?_
   refine wl_step0 (or_storePart (vs := [(.int .i64 (rdC (cnNx s).2.2.1.1 (cnNx s).2.2.1.2).1.op), (.string (strB (rdC (cnNx s).2.2.1.1 (cnNx s).2.2.1.2).1.key)), (.slice K21 (rdC (cnNx s).2.2.1.1 (cnNx s).2.2.1.2).1.keys.length ck21), (.slice V21 (rdC (cnNx s).2.2.1.1 (cnNx s).2.2.1.2).1.value.length cv21), (.slice T21 (rdC (cnNx s).2.2.1.1 (cnNx s).2.2.1.2).1.tags.length ct21), (.int .u64 (↑(rdC (cnNx s).2.2.1.1 (cnNx s).2.2.1.2).1.life : Int)), (.int .u64 (↑(rdC (cnNx s).2.2.1.1 (cnNx s).2.2.1.2).1.ver : Int)), (.string (strB (rdC (cnNx s).2.2.1.1 (cnNx s).2.2.1.2).1.tag)), (.string (strB (rdC (cnNx s).2.2.1.1 (cnNx s).2.2.1.2).1.pre)), (.string (strB (rdC (cnNx s).2.2.1.1 (cnNx s).2.2.1.2).1.child))]) (cs' := [(.pointer (some ⟨gb, 0, none⟩)), (.int .i64 (↑s.ci : Int)), (.int .i64 (↑s.co : Int)), (.int .i64 (↑s.cp : Int)), (.pointer (some ⟨gd, 0, none⟩)), (.int .i64 (↑s.ph : Int)), (.int .i64 (rdC (cnNx s).2.2.1.1 (cnNx s).2.2.1.2).1.op), (.string (strB (rdC (cnNx s).2.2.1.1 (cnNx s).2.2.1.2).1.key)), (.slice K21 (rdC (cnNx s).2.2.1.1 (cnNx s).2.2.1.2).1.keys.length ck21), (.slice V21 (rdC (cnNx s).2.2.1.1 (cnNx s).2.2.1.2).1.value.length cv21), (.slice T21 (rdC (cnNx s).2.2.1.1 (cnNx s).2.2.1.2).1.tags.length ct21), (.int .u64 (↑(rdC (cnNx s).2.2.1.1 (cnNx s).2.2.1.2).1.life : Int)), (.int .u64 (↑(rdC (cnNx s).2.2.1.1 (cnNx s).2.2.1.2).1.ver : Int)), (.string (strB (rdC (cnNx s).2.2.1.1 (cnNx s).2.2.1.2).1.tag)), (.string (strB (rdC (cnNx s).2.2.1.1 (cnNx s).2.2.1.2).1.pre)), (.string (strB (rdC (cnNx s).2.2.1.1 (cnNx s).2.2.1.2).1.child)), (.int .i64 s.ans.op), (.int .i64 s.ans.err), (.slice X s.ans.items.length cx), (.int .u64 (↑s.ans.ver : Int)), (.int .i64 s.ans.count), (.slice N s.ans.nums.length cn), (.slice A s.bs.length c)]) sz39 rfl rfl (by simp [Value.oneCell']) hb_g rfl rfl) rfl rfl ?_
   rintro _ w205 ⟨hN205, hg205⟩
   have hz_hg205 := hg205.size
   replace hR := by first | exact hR.grg hg205 | exact hR.grf hg205 hW (by omega)
   replace hKS := Kp.tg hKS hg205 (by first | exact .inl (mem_cng _ _) | (right; omega))
   replace hK21 := hK21.gr hg205 (fun _ e => by cases e; omega)
   replace hV21 := hV21.gr hg205 (fun _ e => by cases e; omega)
   replace hT21 := hT21.gr hg205 (fun _ e => by cases e; omega)
   replace hb_g := hN205
   refine va rfl rfl ?_
   refine q_nil (k_then (wc_seq (wc_regionL ?_)))
   refine vm rfl rfl ?_
   refine ve rfl rfl rfl ?_
   refine q_nil (k_then ?_)
   refine wc_cond_d rfl (fun hc3 => ?_) (fun hc3 => ?_)
   ·refine wc_seq (wc_regionL ?_)
    refine vm rfl rfl ?_
    refine vn rfl rfl ?_
    refine wl_val (ov_field0 (off := 5) fo57_3 rfl) rfl rfl rfl ?_
    refine wl_step0 (or_storeAt (cs' := [(.pointer (some ⟨gb, 0, none⟩)), (.int .i64 (↑s.ci : Int)), (.int .i64 (↑s.co : Int)), (.int .i64 (↑s.cp : Int)), (.pointer (some ⟨gd, 0, none⟩)), (.int .i64 2), (.int .i64 (rdC (cnNx s).2.2.1.1 (cnNx s).2.2.1.2).1.op), (.string (strB (rdC (cnNx s).2.2.1.1 (cnNx s).2.2.1.2).1.key)), (.slice K21 (rdC (cnNx s).2.2.1.1 (cnNx s).2.2.1.2).1.keys.length ck21), (.slice V21 (rdC (cnNx s).2.2.1.1 (cnNx s).2.2.1.2).1.value.length cv21), (.slice T21 (rdC (cnNx s).2.2.1.1 (cnNx s).2.2.1.2).1.tags.length ct21), (.int .u64 (↑(rdC (cnNx s).2.2.1.1 (cnNx s).2.2.1.2).1.life : Int)), (.int .u64 (↑(rdC (cnNx s).2.2.1.1 (cnNx s).2.2.1.2).1.ver : Int)), (.string (strB (rdC (cnNx s).2.2.1.1 (cnNx s).2.2.1.2).1.tag)), (.string (strB (rdC (cnNx s).2.2.1.1 (cnNx s).2.2.1.2).1.pre)), (.string (strB (rdC (cnNx s).2.2.1.1 (cnNx s).2.2.1.2).1.child)), (.int .i64 s.ans.op), (.int .i64 s.ans.err), (.slice X s.ans.items.length cx), (.int .u64 (↑s.ans.ver : Int)), (.int .i64 s.ans.count), (.slice N s.ans.nums.length cn), (.slice A s.bs.length c)]) sz33 rfl rfl rfl hb_g rfl rfl) rfl rfl ?_
    rintro _ w206 ⟨hN206, hg206⟩
    have hz_hg206 := hg206.size
    replace hR := by first | exact hR.grg hg206 | exact hR.grf hg206 hW (by omega)
    replace hKS := Kp.tg hKS hg206 (by first | exact .inl (mem_cng _ _) | (right; omega))
    replace hK21 := hK21.gr hg206 (fun _ e => by cases e; omega)
    replace hV21 := hV21.gr hg206 (fun _ e => by cases e; omega)
    replace hT21 := hT21.gr hg206 (fun _ e => by cases e; omega)
    replace hb_g := hN206
    refine q_nil (k_then (wc_seq (wc_regionL ?_)))
    refine va rfl rfl ?_
    refine q_nil (k_then (q_ret (k_blockR (k_thenR (k_blockR (k_thenR ?_))))))
    refine e_ret rfl rfl ?_
    rw [cnRd_c (s := s) (by omega) (by omega) (show (rdC (cnNx s).2.2.1.1 (cnNx s).2.2.1.2).2 = 0 by omega)]
    refine ⟨rfl, CnTo.of (⟨gb, gd, Db, Dd, K, ck, V, cv, T, ct, X, cx, xs, N, cn, A, c⟩ : CnP) (cnPc (⟨gb, gd, Db, Dd, K, ck, V, cv, T, ct, X, cx, xs, N, cn, A, c⟩ : CnP) K21 ck21 V21 cv21 T21 ct21) hb_g (CnR.cmd hR ?_ (lo := W21) ?_ ?_ ?_ ?_ (rdC_sz _ _ (by omega))) hKS (fun x h => .inl h) (.inr (by omega))⟩
    ·exact (hok.an).resolve_left (by omega)
    ·exact fun x hx => Nat.lt_of_lt_of_le (hW.1 x hx) (by omega)
    ·rw [hW21]; exact Rd.top hK21
    ·rw [hW21]; exact Rd.top hV21
    ·rw [hW21]; exact Rd.top hT21
   ·have hcm : (rdC (cnNx s).2.2.1.1 (cnNx s).2.2.1.2) = (cmd0 0, 6) := rdC_not hc3
    have hcm2 : cnCm s = (cmd0 0, 6) := hcm
    rw [hcm] at hK21 hV21 hT21
    replace hR := CnR.cmd0 hR hK21 hV21 hT21
    rw [hcm] at hb_g
    refine q_skip (k_block (k_then (wc_seq (wc_regionL ?_))))
    iterate 2 refine vm rfl rfl ?_
    refine wl_step (or_call0 cl55 rfl rfl (fail8_any _ _ _)) rfl rfl rfl ?_
    rintro v w206 ⟨rfl, he33⟩
    replace hb_g := hb_g.ext he33
    replace hR := hR.ext he33
    replace hKS := Kp.te hKS he33
    have hz_he33 := he33.size
    refine wl_step (or_call0 cl54 rfl rfl (cwrite_ok _ g a b { cnD s with cmd := cmd0 0 } gb gd Db Dd K21 ck21 V21 cv21 T21 ct21 X cx xs N cn A c hb_g hR (rspO 0 ((rdC (cnNx s).2.2.1.1 (cnNx s).2.2.1.2).2 : Int)) [] rfl w206.heap.size w206.heap.size none 0 none 0 (RdI.nil _ _ _) (Rd.nil _ _ _ _ _ _ (Nat.zero_le _)) (rspok_e _ _) (rsz_e _ _) (fun x hx => Nat.lt_of_lt_of_le (hW.1 x hx) (by omega)) (Nat.le_refl _) (Nat.le_refl _))) rfl rfl rfl ?_
    rintro v w207 ⟨rfl, A34, c34, hb34, hR34, hk34⟩
    replace hKS := hKS.tr hk34 (fun x hx => .inl hx)
    have hz34 := hk34.size
    refine q_nil (k_then (q_exit (k_blockE (k_then (wc_seq (wc_regionL ?_))))))
    refine va rfl rfl ?_
    refine q_nil (k_then (q_ret ?_))
    refine e_ret rfl rfl ?_
    rw [cnRd_b (s := s) (by omega) (by omega) (show ¬ (rdC (cnNx s).2.2.1.1 (cnNx s).2.2.1.2).2 = 0 by omega)]
    exact ⟨rfl, CnTo.of (⟨gb, gd, Db, Dd, K, ck, V, cv, T, ct, X, cx, xs, N, cn, A, c⟩ : CnP) _ hb34 hR34 hKS (fun x h => .inl h) (.inr (by omega))⟩
  ·refine q_skip (k_then (q_exit ?_))
   refine k_blockX rfl ?_
   refine k_thenX ?_
   refine k_blockX rfl ?_
   refine k_thenX (k_blockE (k_then (wc_seq (wc_regionL ?_))))
   iterate 2 refine vm rfl rfl ?_
   refine wl_step (or_call0 cl55 rfl rfl (fail8_any _ _ _)) rfl rfl rfl ?_
   rintro v w204 ⟨rfl, he33⟩
   replace hb_g := hb_g.ext he33
   replace hR := hR.ext he33
   replace hKS := Kp.te hKS he33
   have hz_he33 := he33.size
   refine wl_step (or_call0 cl54 rfl rfl (cwrite_ok _ g a b (cnD s) gb gd Db Dd K ck V cv T ct X cx xs N cn A c hb_g hR (rspO 0 ((cnNx s).2.2.2 : Int)) [] rfl w204.heap.size w204.heap.size none 0 none 0 (RdI.nil _ _ _) (Rd.nil _ _ _ _ _ _ (Nat.zero_le _)) (rspok_e _ _) (rsz_e _ _) (fun x hx => Nat.lt_of_lt_of_le (hW.1 x hx) (by omega)) (Nat.le_refl _) (Nat.le_refl _))) rfl rfl rfl ?_
   rintro v w205 ⟨rfl, A34, c34, hb34, hR34, hk34⟩
   replace hKS := hKS.tr hk34 (fun x hx => .inl hx)
   have hz34 := hk34.size
   refine q_nil (k_then (q_exit (k_blockE (k_then (wc_seq (wc_regionL ?_))))))
   refine va rfl rfl ?_
   refine q_nil (k_then (q_ret ?_))
   refine e_ret rfl rfl ?_
   rw [cnRd_e (s := s) (by omega) (by omega)]
   exact ⟨rfl, CnTo.of (⟨gb, gd, Db, Dd, K, ck, V, cv, T, ct, X, cx, xs, N, cn, A, c⟩ : CnP) _ hb34 hR34 hKS (fun x h => .inl h) (.inr (by omega))⟩
theorem cstep_ok (w : World) (g a b : Nat) (s : Cn) (gb gd : Nat) (Db Dd : Option Nat) (K : Option Addr) (ck : Nat) (V : Option Addr) (cv : Nat) (T : Option Addr) (ct : Nat) (X : Option Addr) (cx : Nat) (xs : List IT) (N : Option Addr) (cn : Nat) (A : Option Addr) (c : Nat) (hb_g : Blk w g 57 (cnc s (⟨gb, gd, Db, Dd, K, ck, V, cv, T, ct, X, cx, xs, N, cn, A, c⟩ : CnP))) (hR : CnR w g a b s (⟨gb, gd, Db, Dd, K, ck, V, cv, T, ct, X, cx, xs, N, cn, A, c⟩ : CnP)) (hpt : s.pt ≤ 4611686018427387904) :
  Fn Tryz.prog 17 #[(.pointer (some ⟨g, 0, none⟩))] w (fun v w' => v = .tuple #[.int .i64 ((cnStep s).2 : Int), .int .i64 0] ∧ CnTo w w' g (cnS g (⟨gb, gd, Db, Dd, K, ck, V, cv, T, ct, X, cx, xs, N, cn, A, c⟩ : CnP)) a b (cnStep s).1)  := by
 replace hb_g : Blk w g 57 [(.pointer (some ⟨gb, 0, none⟩)), (.int .i64 (↑s.ci : Int)), (.int .i64 (↑s.co : Int)), (.int .i64 (↑s.cp : Int)), (.pointer (some ⟨gd, 0, none⟩)), (.int .i64 (↑s.ph : Int)), (.int .i64 s.cmd.op), (.string (strB s.cmd.key)), (.slice K s.cmd.keys.length ck), (.slice V s.cmd.value.length cv), (.slice T s.cmd.tags.length ct), (.int .u64 (↑s.cmd.life : Int)), (.int .u64 (↑s.cmd.ver : Int)), (.string (strB s.cmd.tag)), (.string (strB s.cmd.pre)), (.string (strB s.cmd.child)), (.int .i64 s.ans.op), (.int .i64 s.ans.err), (.slice X s.ans.items.length cx), (.int .u64 (↑s.ans.ver : Int)), (.int .i64 s.ans.count), (.slice N s.ans.nums.length cn), (.slice A s.bs.length c)] := hb_g
 have hW := hR.bnd
 have hgl := hb_g.lt
 have hok := hR.ok
 obtain ⟨kp1, kp2, ki1, ki2, ko1, khl, kph1, kph4, ksz, kbl, kan, kcb⟩ := id hok
 have hne1 := hR.ne1
 have hne2 := hR.ne2
 have hne3 := hR.ne3
 have hKS := Kp.refl (cnS g (⟨gb, gd, Db, Dd, K, ck, V, cv, T, ct, X, cx, xs, N, cn, A, c⟩ : CnP)) w
 refine fn_enter (args := [(.pointer (some ⟨g, 0, none⟩))]) Tryz.func17 rfl rfl rfl ?_
 show WC _ _ _ _ [(0, (.pointer (some ⟨g, 0, none⟩)))] _
 refine wc_seq (wc_regionL ?_)
 iterate 2 refine va rfl rfl ?_
 refine q_nil (k_then (wc_seq (wc_seq (wc_regionL ?_))))
 refine vm rfl rfl ?_
 refine wl_val (or_call0 cl39 rfl rfl (czero_ok _ g s gb gd Db Dd K ck V cv T ct X cx xs N cn A c hb_g)) rfl rfl rfl ?_
 refine q_nil (k_then ?_)
 refine wc_cond_f rfl ?_
 refine q_skip (k_then (wc_seq (wc_seq (wc_regionL ?_))))
 refine vm rfl rfl ?_
 refine vn rfl rfl ?_
 refine wl_val (ov_field0 (off := 5) fo57_3 rfl) rfl rfl rfl ?_
 refine wl_val (ov_loadAt oc33 rfl hb_g rfl) rfl rfl rfl ?_
 refine q_nil (k_then (wc_block (wc_seq (wc_regionL ?_))))
 refine ve rfl rfl rfl ?_
 refine va rfl rfl ?_
 refine q_nil (k_then ?_)
 refine wc_cond_d rfl (fun hc2 => ?_) (fun hc2 => ?_)
 ·refine wc_seq (wc_regionL ?_)
  refine vm rfl rfl ?_
  refine wl_step (or_call0 cl43 rfl rfl (cread_ok _ g a b s gb gd Db Dd K ck V cv T ct X cx xs N cn A c hb_g hR (by omega))) rfl rfl rfl ?_
  rintro v w1 ⟨rfl, hto13⟩
  iterate 2 refine va rfl rfl ?_
  refine q_nil (k_then (q_ret (k_blockR (k_thenR ?_))))
  refine e_ret2 rfl rfl rfl ?_
  have e : cnStep s = cnRd s := if_pos (by omega)
  rw [e]
  exact ⟨rfl, hto13⟩
 ·refine wc_seq (wc_regionL ?_)
  refine ve rfl rfl rfl ?_
  refine va rfl rfl ?_
  refine q_nil (k_then ?_)
  refine wc_cond_d rfl (fun hc3 => ?_) (fun hc3 => ?_)
  ·refine wc_seq (wc_regionL ?_)
   iterate 2 refine va rfl rfl ?_
   refine q_nil (k_then (q_ret (k_blockR (k_thenR ?_))))
   refine e_ret2 rfl rfl rfl ?_
   have e : cnStep s = (s, 3) := (if_neg (by omega)).trans (if_pos (by omega))
   rw [e]
   exact ⟨rfl, CnTo.of (⟨gb, gd, Db, Dd, K, ck, V, cv, T, ct, X, cx, xs, N, cn, A, c⟩ : CnP) (⟨gb, gd, Db, Dd, K, ck, V, cv, T, ct, X, cx, xs, N, cn, A, c⟩ : CnP) hb_g hR hKS (fun x h => .inl h) (.inl ⟨rfl, rfl⟩)⟩
  ·refine wc_seq (wc_regionL ?_)
   refine ve rfl rfl rfl ?_
   refine va rfl rfl ?_
   refine q_nil (k_then ?_)
   refine wc_cond_d rfl (fun hc4 => ?_) (fun hc4 => ?_)
   ·refine wc_seq (wc_regionL ?_)
    iterate 2 refine va rfl rfl ?_
    refine q_nil (k_then (q_ret (k_blockR (k_thenR ?_))))
    refine e_ret2 rfl rfl rfl ?_
    have e : cnStep s = (s, 0) := (if_neg (by omega)).trans ((if_neg (by omega)).trans (if_pos (by omega)))
    rw [e]
    exact ⟨rfl, CnTo.of (⟨gb, gd, Db, Dd, K, ck, V, cv, T, ct, X, cx, xs, N, cn, A, c⟩ : CnP) (⟨gb, gd, Db, Dd, K, ck, V, cv, T, ct, X, cx, xs, N, cn, A, c⟩ : CnP) hb_g hR hKS (fun x h => .inl h) (.inl ⟨rfl, rfl⟩)⟩
   ·refine q_skip (k_block (k_then (wc_seq (wc_seq ?_))))
    refine wc_draw mixed 8 [(18, eqv (.pointer (some ⟨g, 0, none⟩))), (19, eqv (.pointer (some ⟨g, 0, none⟩))), (20, eqv (.pointer (some ⟨g, 0, none⟩))), (21, eqv (.pointer (some ⟨gb, 0, none⟩))), (22, eqv (.pointer (some ⟨g, 0, none⟩))), (23, eqv (.pointer (some ⟨g, 0, none⟩))), (24, eqv (.pointer (some ⟨g, 22, none⟩))), (25, eqv (.slice A s.bs.length c))] [[], [0], [1], [2], [], [4], [5], [6]] _ [] [] (fun _ _ h => h) trivial (by kernel_rfl) rfl ⟨⟨stb_eqv _, fun _ he => by cases he⟩, ⟨stb_eqv _, fun _ he => by cases he⟩, ⟨stb_eqv _, fun _ he => by cases he⟩, ⟨stb_eqv _, fun _ he => by cases he⟩, ⟨stb_eqv _, fun _ he => by cases he⟩, ⟨stb_eqv _, fun _ he => by cases he⟩, ⟨stb_eqv _, fun _ he => by cases he⟩, ⟨stb_eqv _, fun _ he => by cases he⟩, trivial⟩ ⟨?_, ?_, ?_, ?_, ?_, ?_, ?_, ?_, trivial⟩ ?_
    ·intro wd hxE
     have hz_hxE := hxE.size
     show OpG _ _ _ _ _ _
     exact og_plain rfl (ox_val (ov_move rfl))
    ·intro wd hxE
     have hz_hxE := hxE.size
     rintro _ rfl
     show OpG _ _ _ _ _ _
     exact og_plain rfl (ox_val (ov_nilCheck rfl))
    ·intro wd hxE
     have hz_hxE := hxE.size
     rintro _ rfl
     show OpG _ _ _ _ _ _
     exact og_plain rfl (ox_val (ov_field0 (off := 0) fo57_0 rfl))
    ·intro wd hxE
     replace hb_g := hb_g.ext hxE
     have hz_hxE := hxE.size
     rintro _ rfl
     show OpG _ _ _ _ _ _
     exact og_plain rfl (ox_val (ov_loadAt oc54 rfl hb_g rfl))
    ·intro wd hxE
     have hz_hxE := hxE.size
     show OpG _ _ _ _ _ _
     exact og_plain rfl (ox_val (ov_move rfl))
    ·intro wd hxE
     have hz_hxE := hxE.size
     rintro _ rfl
     show OpG _ _ _ _ _ _
     exact og_plain rfl (ox_val (ov_nilCheck rfl))
    ·intro wd hxE
     have hz_hxE := hxE.size
     rintro _ rfl
     show OpG _ _ _ _ _ _
     exact og_plain rfl (ox_val (ov_field0 (off := 22) fo57_6 rfl))
    ·intro wd hxE
     replace hb_g := hb_g.ext hxE
     have hz_hxE := hxE.size
     rintro _ rfl
     show OpG _ _ _ _ _ _
     exact og_plain rfl (ox_val (ov_loadAt oc32 rfl hb_g rfl))
    ·intro wf10 hf10
     replace hb_g := hb_g.ext hf10
     replace hR := hR.ext hf10
     replace hKS := Kp.te hKS hf10
     have hz_hf10 := hf10.size
     rintro _ rfl
     rintro _ rfl
     rintro _ rfl
     rintro _ rfl
     rintro _ rfl
     rintro _ rfl
     rintro _ rfl
     rintro _ rfl
     show WL _ _ _ [_, _] _ _ _
     refine wl_step (or_call0 cl44 rfl rfl (bputall_ok _ 0 gb Db s.co s.out s.pt s.tk hR.buf _ _ A c s.bs hR.hA (hR.sep _ (mem_gb g (⟨gb, gd, Db, Dd, K, ck, V, cv, T, ct, X, cx, xs, N, cn, A, c⟩ : CnP))).2 (fun x e => (hR.sep x (mem_Db e)).2) hpt (Nat.zero_le _))) rfl rfl rfl ?_
     rintro v w201 ⟨rfl, ⟨D26, hbuf26, hN26⟩, hC26⟩
     have hz26 := hC26.size
     replace hb_g := hC26.bk hb_g hR.ne1.1 hR.ne2.1
     replace hKS := hKS.chb hC26
     replace hR := hR.bufTo hC26 hbuf26 hN26
     have hbc := ball_cases s.co s.out s.bs
     have hW2 := hR.bnd
     refine wl_val (ov_neq rfl rfl) rfl rfl rfl ?_
     refine q_nil (k_then ?_)
     refine wc_cond_d rfl (fun hc5 => ?_) (fun hc5 => ?_)
     ·refine wc_seq (wc_regionL ?_)
      iterate 2 refine va rfl rfl ?_
      refine q_nil (k_then (q_ret (k_thenR ?_)))
      refine e_ret2 rfl rfl rfl ?_
      rcases hbc with ⟨hb1, hb2⟩ | ⟨hb1, hb2⟩
      ·have e : cnStep s = (s, 5) := (if_neg (by omega)).trans ((if_neg (by omega)).trans ((if_neg (by omega)).trans (if_pos hb1)))
       rw [e]
       rw [hb2] at hR
       exact ⟨rfl, CnTo.of (⟨gb, gd, Db, Dd, K, ck, V, cv, T, ct, X, cx, xs, N, cn, A, c⟩ : CnP) (cnPb (⟨gb, gd, Db, Dd, K, ck, V, cv, T, ct, X, cx, xs, N, cn, A, c⟩ : CnP) D26) hb_g hR hKS (fun x h => (cnS_b (p := (⟨gb, gd, Db, Dd, K, ck, V, cv, T, ct, X, cx, xs, N, cn, A, c⟩ : CnP)) (D := D26) hN26 h).imp id (fun h => by omega)) (.inl ⟨rfl, rfl⟩)⟩
      ·rw [hb2] at hc5; exact absurd rfl hc5
     ·refine q_skip (k_then (wc_seq (wc_regionL ?_)))
      iterate 3 refine vm rfl rfl ?_
      refine wl_val (ov_build (cs := [(.int .i64 0), (.int .i64 0), (.slice none 0 0), (.int .u64 0), (.int .i64 0), (.slice none 0 0)]) ze43 pl43 rfl rfl) rfl rfl rfl ?_
      refine vn rfl rfl ?_
      refine wl_val (ov_field0 (off := 5) fo57_3 rfl) rfl rfl rfl ?_
      refine wl_step0 (or_storeAt (cs' := [(.pointer (some ⟨gb, 0, none⟩)), (.int .i64 (↑s.ci : Int)), (.int .i64 (↑s.co : Int)), (.int .i64 (↑s.cp : Int)), (.pointer (some ⟨gd, 0, none⟩)), (.int .i64 1), (.int .i64 s.cmd.op), (.string (strB s.cmd.key)), (.slice K s.cmd.keys.length ck), (.slice V s.cmd.value.length cv), (.slice T s.cmd.tags.length ct), (.int .u64 (↑s.cmd.life : Int)), (.int .u64 (↑s.cmd.ver : Int)), (.string (strB s.cmd.tag)), (.string (strB s.cmd.pre)), (.string (strB s.cmd.child)), (.int .i64 s.ans.op), (.int .i64 s.ans.err), (.slice X s.ans.items.length cx), (.int .u64 (↑s.ans.ver : Int)), (.int .i64 s.ans.count), (.slice N s.ans.nums.length cn), (.slice A s.bs.length c)]) sz33 rfl rfl rfl hb_g rfl rfl) rfl rfl ?_
      rintro _ w202 ⟨hN202, hg202⟩
      have hz_hg202 := hg202.size
      replace hR := by first | exact hR.grg hg202 | exact hR.grf hg202 hW (by omega)
      replace hKS := Kp.tg hKS hg202 (by first | exact .inl (mem_cng _ _) | (right; omega))
      replace hb_g := hN202
      refine vn rfl rfl ?_
      refine wl_val (ov_field0 (off := 16) fo57_5 rfl) rfl rfl rfl ?_
      refine wl_step0 (or_storePart (vs := [(.int .i64 0), (.int .i64 0), (.slice none 0 0), (.int .u64 0), (.int .i64 0), (.slice none 0 0)]) (cs' := [(.pointer (some ⟨gb, 0, none⟩)), (.int .i64 (↑s.ci : Int)), (.int .i64 (↑s.co : Int)), (.int .i64 (↑s.cp : Int)), (.pointer (some ⟨gd, 0, none⟩)), (.int .i64 1), (.int .i64 s.cmd.op), (.string (strB s.cmd.key)), (.slice K s.cmd.keys.length ck), (.slice V s.cmd.value.length cv), (.slice T s.cmd.tags.length ct), (.int .u64 (↑s.cmd.life : Int)), (.int .u64 (↑s.cmd.ver : Int)), (.string (strB s.cmd.tag)), (.string (strB s.cmd.pre)), (.string (strB s.cmd.child)), (.int .i64 0), (.int .i64 0), (.slice none 0 0), (.int .u64 0), (.int .i64 0), (.slice none 0 0), (.slice A s.bs.length c)]) sz43 rfl rfl (by simp [Value.oneCell']) hb_g rfl rfl) rfl rfl ?_
      rintro _ w203 ⟨hN203, hg203⟩
      have hz_hg203 := hg203.size
      replace hR := by first | exact hR.grg hg203 | exact hR.grf hg203 hW (by omega)
      replace hKS := Kp.tg hKS hg203 (by first | exact .inl (mem_cng _ _) | (right; omega))
      replace hb_g := hN203
      refine vn rfl rfl ?_
      refine wl_val (ov_field0 (off := 22) fo57_6 rfl) rfl rfl rfl ?_
      refine wl_step0 (or_storeAt (cs' := [(.pointer (some ⟨gb, 0, none⟩)), (.int .i64 (↑s.ci : Int)), (.int .i64 (↑s.co : Int)), (.int .i64 (↑s.cp : Int)), (.pointer (some ⟨gd, 0, none⟩)), (.int .i64 1), (.int .i64 s.cmd.op), (.string (strB s.cmd.key)), (.slice K s.cmd.keys.length ck), (.slice V s.cmd.value.length cv), (.slice T s.cmd.tags.length ct), (.int .u64 (↑s.cmd.life : Int)), (.int .u64 (↑s.cmd.ver : Int)), (.string (strB s.cmd.tag)), (.string (strB s.cmd.pre)), (.string (strB s.cmd.child)), (.int .i64 0), (.int .i64 0), (.slice none 0 0), (.int .u64 0), (.int .i64 0), (.slice none 0 0), (.slice none 0 0)]) sz32 rfl rfl rfl hb_g rfl rfl) rfl rfl ?_
      rintro _ w204 ⟨hN204, hg204⟩
      have hz_hg204 := hg204.size
      replace hR := by first | exact hR.grg hg204 | exact hR.grf hg204 hW (by omega)
      replace hKS := Kp.tg hKS hg204 (by first | exact .inl (mem_cng _ _) | (right; omega))
      replace hb_g := hN204
      refine q_nil (k_then (wc_seq (wc_seq (wc_regionL ?_))))
      refine vm rfl rfl ?_
      refine vn rfl rfl ?_
      refine wl_val (ov_field0 (off := 4) fo57_2 rfl) rfl rfl rfl ?_
      refine wl_val (ov_loadAt oc55 rfl hb_g rfl) rfl rfl rfl ?_
      refine wl_step (or_call0 cl40 rfl rfl (dclosed_ok _ 0 gd Dd s.cp s.cl s.held hR.dec (by omega))) rfl rfl rfl ?_
      rintro v w205 ⟨rfl, he42⟩
      replace hb_g := hb_g.ext he42
      replace hR := hR.ext he42
      replace hKS := Kp.te hKS he42
      have hz_he42 := he42.size
      refine q_nil (k_then ?_)
      refine wc_cond rfl (fun hc6 => ?_) (fun hc6 => ?_)
      ·refine wc_regionL ?_
       refine vm rfl rfl ?_
       refine vn rfl rfl ?_
       refine wl_val (ov_field0 (off := 5) fo57_3 rfl) rfl rfl rfl ?_
       refine wl_step0 (or_storeAt (cs' := [(.pointer (some ⟨gb, 0, none⟩)), (.int .i64 (↑s.ci : Int)), (.int .i64 (↑s.co : Int)), (.int .i64 (↑s.cp : Int)), (.pointer (some ⟨gd, 0, none⟩)), (.int .i64 4), (.int .i64 s.cmd.op), (.string (strB s.cmd.key)), (.slice K s.cmd.keys.length ck), (.slice V s.cmd.value.length cv), (.slice T s.cmd.tags.length ct), (.int .u64 (↑s.cmd.life : Int)), (.int .u64 (↑s.cmd.ver : Int)), (.string (strB s.cmd.tag)), (.string (strB s.cmd.pre)), (.string (strB s.cmd.child)), (.int .i64 0), (.int .i64 0), (.slice none 0 0), (.int .u64 0), (.int .i64 0), (.slice none 0 0), (.slice none 0 0)]) sz33 rfl rfl rfl hb_g rfl rfl) rfl rfl ?_
       rintro _ w206 ⟨hN206, hg206⟩
       have hz_hg206 := hg206.size
       replace hR := by first | exact hR.grg hg206 | exact hR.grf hg206 hW (by omega)
       replace hKS := Kp.tg hKS hg206 (by first | exact .inl (mem_cng _ _) | (right; omega))
       replace hb_g := hN206
       refine q_nil (k_then (wc_seq (wc_regionL ?_)))
       iterate 2 refine va rfl rfl ?_
       refine q_nil (k_then (q_ret ?_))
       refine e_ret2 rfl rfl rfl ?_
       rcases hbc with ⟨hb1, hb2⟩ | ⟨hb1, hb2⟩
       ·rw [hb2] at hc5; exact absurd (show ((7 : Nat) : Int) ≠ 0 by decide) hc5
       rw [hb2] at hR
       have e : cnStep s = (cnOut s, 4) := (if_neg (by omega)).trans ((if_neg (by omega)).trans ((if_neg (by omega)).trans (if_neg hb1)))
       have e2 : cnOut s = { s with out := s.out ++ s.bs, pt := s.pt + s.bs.length, ph := 4, ans := rspO 0 0, bs := [] } := by unfold cnOut; rw [if_pos (by simpa using hc6)]
       rw [e]
       refine ⟨rfl, ?_⟩
       show CnTo w _ g (cnS g (⟨gb, gd, Db, Dd, K, ck, V, cv, T, ct, X, cx, xs, N, cn, A, c⟩ : CnP)) a b (cnOut s)
       rw [e2]
       exact CnTo.of (⟨gb, gd, Db, Dd, K, ck, V, cv, T, ct, X, cx, xs, N, cn, A, c⟩ : CnP) (cnPz (cnPb (⟨gb, gd, Db, Dd, K, ck, V, cv, T, ct, X, cx, xs, N, cn, A, c⟩ : CnP) D26)) hb_g (hR.ans0 (n := 4) (by decide) (by decide)) hKS (fun x h => (cnS_b (p := (⟨gb, gd, Db, Dd, K, ck, V, cv, T, ct, X, cx, xs, N, cn, A, c⟩ : CnP)) (D := D26) hN26 h).imp id (fun h => by omega)) (.inl ⟨rfl, rfl⟩)
      ·refine q_skip (k_then (wc_seq (wc_regionL ?_)))
       iterate 2 refine va rfl rfl ?_
       refine q_nil (k_then (q_ret ?_))
       refine e_ret2 rfl rfl rfl ?_
       rcases hbc with ⟨hb1, hb2⟩ | ⟨hb1, hb2⟩
       ·rw [hb2] at hc5; exact absurd (show ((7 : Nat) : Int) ≠ 0 by decide) hc5
       rw [hb2] at hR
       have e : cnStep s = (cnOut s, 4) := (if_neg (by omega)).trans ((if_neg (by omega)).trans ((if_neg (by omega)).trans (if_neg hb1)))
       have e2 : cnOut s = { s with out := s.out ++ s.bs, pt := s.pt + s.bs.length, ph := 1, ans := rspO 0 0, bs := [] } := by unfold cnOut; rw [if_neg (by simpa using hc6)]
       rw [e]
       refine ⟨rfl, ?_⟩
       show CnTo w _ g (cnS g (⟨gb, gd, Db, Dd, K, ck, V, cv, T, ct, X, cx, xs, N, cn, A, c⟩ : CnP)) a b (cnOut s)
       rw [e2]
       exact CnTo.of (⟨gb, gd, Db, Dd, K, ck, V, cv, T, ct, X, cx, xs, N, cn, A, c⟩ : CnP) (cnPz (cnPb (⟨gb, gd, Db, Dd, K, ck, V, cv, T, ct, X, cx, xs, N, cn, A, c⟩ : CnP) D26)) hb_g (hR.ans0 (n := 1) (by decide) (by decide)) hKS (fun x h => (cnS_b (p := (⟨gb, gd, Db, Dd, K, ck, V, cv, T, ct, X, cx, xs, N, cn, A, c⟩ : CnP)) (D := D26) hN26 h).imp id (fun h => by omega)) (.inl ⟨rfl, rfl⟩)
end Go.Proofs.YtiighkbehiddkaaGreat