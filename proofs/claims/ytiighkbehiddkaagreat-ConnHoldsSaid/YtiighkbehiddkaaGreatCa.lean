/-
 The contracts of a connection: what is asked of it.
-/
import Derived.Test.YtiighkbehiddkaaGreatConn
namespace Go.Proofs.YtiighkbehiddkaaGreat
open Go.RowKit
set_option linter.unusedVariables false
set_option maxRecDepth 4000
theorem ag23_3 : aggTy Tryz.prog 23 3 = true := by kernel_rfl
theorem cl27 : callable Tryz.prog 27 = true := by kernel_rfl
theorem cl33 : callable Tryz.prog 33 = true := by kernel_rfl
theorem cl34 : callable Tryz.prog 34 = true := by kernel_rfl
theorem cl39 : callable Tryz.prog 39 = true := by kernel_rfl
theorem cl41 : callable Tryz.prog 41 = true := by kernel_rfl
theorem fo23_0 : fieldOff Tryz.prog 23 0 = some 0 := by kernel_rfl
theorem fo23_1 : fieldOff Tryz.prog 23 1 = some 1 := by kernel_rfl
theorem fo23_2 : fieldOff Tryz.prog 23 2 = some 2 := by kernel_rfl
theorem fo57_0 : fieldOff Tryz.prog 57 0 = some 0 := by kernel_rfl
theorem fo57_2 : fieldOff Tryz.prog 57 2 = some 4 := by kernel_rfl
theorem fo57_3 : fieldOff Tryz.prog 57 3 = some 5 := by kernel_rfl
theorem oc33 : oneCellTy Tryz.prog 33 = true := by kernel_rfl
theorem oc54 : oneCellTy Tryz.prog 54 = true := by kernel_rfl
theorem oc55 : oneCellTy Tryz.prog 55 = true := by kernel_rfl
theorem pl57 : placesOf Tryz.prog 57 = some [(0, 1), (1, 3), (4, 1), (5, 1), (6, 10), (16, 6), (22, 1)] := by kernel_rfl
theorem ze57 : zeroOf Tryz.prog 57 = some (.agg #[(.pointer none), (.int .i64 0), (.int .i64 0), (.int .i64 0), (.pointer none), (.int .i64 0), (.int .i64 0), (.string (strB [])), (.slice none 0 0), (.slice none 0 0), (.slice none 0 0), (.int .u64 0), (.int .u64 0), (.string (strB [])), (.string (strB [])), (.string (strB [])), (.int .i64 0), (.int .i64 0), (.slice none 0 0), (.int .u64 0), (.int .i64 0), (.slice none 0 0), (.slice none 0 0)]) := by kernel_rfl
theorem czero_ok (w : World) (g : Nat) (s : Cn) (gb gd : Nat) (Db Dd : Option Nat) (K : Option Addr) (ck : Nat) (V : Option Addr) (cv : Nat) (T : Option Addr) (ct : Nat) (X : Option Addr) (cx : Nat) (xs : List IT) (N : Option Addr) (cn : Nat) (A : Option Addr) (c : Nat) (hb_g : Blk w g 57 (cnc s (⟨gb, gd, Db, Dd, K, ck, V, cv, T, ct, X, cx, xs, N, cn, A, c⟩ : CnP))) :
  Fn Tryz.prog 39 #[(.pointer (some ⟨g, 0, none⟩))] w (fun v w' => v = .bool false ∧ w' = w)  := by
 replace hb_g : Blk w g 57 [(.pointer (some ⟨gb, 0, none⟩)), (.int .i64 (↑s.ci : Int)), (.int .i64 (↑s.co : Int)), (.int .i64 (↑s.cp : Int)), (.pointer (some ⟨gd, 0, none⟩)), (.int .i64 (↑s.ph : Int)), (.int .i64 s.cmd.op), (.string (strB s.cmd.key)), (.slice K s.cmd.keys.length ck), (.slice V s.cmd.value.length cv), (.slice T s.cmd.tags.length ct), (.int .u64 (↑s.cmd.life : Int)), (.int .u64 (↑s.cmd.ver : Int)), (.string (strB s.cmd.tag)), (.string (strB s.cmd.pre)), (.string (strB s.cmd.child)), (.int .i64 s.ans.op), (.int .i64 s.ans.err), (.slice X s.ans.items.length cx), (.int .u64 (↑s.ans.ver : Int)), (.int .i64 s.ans.count), (.slice N s.ans.nums.length cn), (.slice A s.bs.length c)] := hb_g
 refine fn_enter (args := [(.pointer (some ⟨g, 0, none⟩))]) Tryz.func39 rfl rfl rfl ?_
 show WC _ _ _ _ [(0, (.pointer (some ⟨g, 0, none⟩)))] _
 refine wc_seq (wc_regionL ?_)
 refine va rfl rfl ?_
 refine q_nil (k_then (wc_seq (wc_regionL ?_)))
 refine vm rfl rfl ?_
 refine wl_val (ov_nilptr Tryz.underlying28 rfl) rfl rfl rfl ?_
 refine vm rfl rfl ?_
 refine wl_gval (ov_move rfl) rfl rfl rfl rfl rfl ?_
 refine wl_gval (ov_nilCheck rfl) rfl rfl rfl rfl rfl ?_
 refine wl_gval (ov_field0 (off := 4) fo57_2 rfl) rfl rfl rfl rfl rfl ?_
 refine wl_gval (ov_loadAt oc55 rfl hb_g rfl) rfl rfl rfl rfl rfl ?_
 refine wl_gval (ov_nilptr Tryz.underlying55 rfl) rfl rfl rfl rfl rfl ?_
 refine wl_val (ov_pick_f rfl rfl) rfl rfl rfl ?_
 refine va rfl rfl ?_
 refine q_nil (k_then (q_ret ?_))
 refine e_ret rfl rfl ?_
 exact ⟨rfl, rfl⟩
theorem cin_ok (w : World) (g a b : Nat) (s : Cn) (gb gd : Nat) (Db Dd : Option Nat) (K : Option Addr) (ck : Nat) (V : Option Addr) (cv : Nat) (T : Option Addr) (ct : Nat) (X : Option Addr) (cx : Nat) (xs : List IT) (N : Option Addr) (cn : Nat) (A : Option Addr) (c : Nat) (hb_g : Blk w g 57 (cnc s (⟨gb, gd, Db, Dd, K, ck, V, cv, T, ct, X, cx, xs, N, cn, A, c⟩ : CnP))) (hR : CnR w g a b s (⟨gb, gd, Db, Dd, K, ck, V, cv, T, ct, X, cx, xs, N, cn, A, c⟩ : CnP)) (p : Nat) :
  Fn Tryz.prog 45 #[(.pointer (some ⟨g, 0, none⟩)), (.int .i64 (↑p : Int))] w (fun v w' => v = .int .i64 (cnIn s p : Int) ∧ Ext w w')  := by
 replace hb_g : Blk w g 57 [(.pointer (some ⟨gb, 0, none⟩)), (.int .i64 (↑s.ci : Int)), (.int .i64 (↑s.co : Int)), (.int .i64 (↑s.cp : Int)), (.pointer (some ⟨gd, 0, none⟩)), (.int .i64 (↑s.ph : Int)), (.int .i64 s.cmd.op), (.string (strB s.cmd.key)), (.slice K s.cmd.keys.length ck), (.slice V s.cmd.value.length cv), (.slice T s.cmd.tags.length ct), (.int .u64 (↑s.cmd.life : Int)), (.int .u64 (↑s.cmd.ver : Int)), (.string (strB s.cmd.tag)), (.string (strB s.cmd.pre)), (.string (strB s.cmd.child)), (.int .i64 s.ans.op), (.int .i64 s.ans.err), (.slice X s.ans.items.length cx), (.int .u64 (↑s.ans.ver : Int)), (.int .i64 s.ans.count), (.slice N s.ans.nums.length cn), (.slice A s.bs.length c)] := hb_g
 have hW := hR.bnd
 have hgl := hb_g.lt
 have hok := hR.ok
 obtain ⟨kp1, kp2, ki1, ki2, ko1, khl, kph1, kph4, ksz, kbl, kan, kcb⟩ := id hok
 have hne1 := hR.ne1
 have hne2 := hR.ne2
 have hne3 := hR.ne3
 have hE := ext_refl w
 refine fn_enter (args := [(.pointer (some ⟨g, 0, none⟩)), (.int .i64 (↑p : Int))]) Tryz.func45 rfl rfl rfl ?_
 show WC _ _ _ _ [(0, (.pointer (some ⟨g, 0, none⟩))), (1, (.int .i64 (↑p : Int)))] _
 refine wc_seq (wc_regionL ?_)
 refine va rfl rfl ?_
 refine q_nil (k_then (wc_seq (wc_block (wc_seq (wc_regionL ?_)))))
 refine vm rfl rfl ?_
 refine wl_val (or_call0 cl39 rfl rfl (czero_ok _ g s gb gd Db Dd K ck V cv T ct X cx xs N cn A c hb_g)) rfl rfl rfl ?_
 refine va rfl rfl ?_
 refine q_nil (k_then ?_)
 refine wc_cond_f rfl ?_
 refine wc_seq (wc_regionL ?_)
 refine vm rfl rfl ?_
 refine vn rfl rfl ?_
 refine wl_val (ov_field0 (off := 5) fo57_3 rfl) rfl rfl rfl ?_
 refine wl_val (ov_loadAt oc33 rfl hb_g rfl) rfl rfl rfl ?_
 refine vm rfl rfl ?_
 refine wl_val (ov_neq rfl rfl) rfl rfl rfl ?_
 refine va rfl rfl ?_
 refine q_nil (k_then ?_)
 refine wc_cond_d rfl (fun hc2 => ?_) (fun hc2 => ?_)
 ·refine wc_seq (wc_regionL ?_)
  refine va rfl rfl ?_
  refine q_nil (k_then (q_ret (k_blockR (k_thenR ?_))))
  refine e_ret rfl rfl ?_
  have e : cnIn s p = 8 := if_neg (by omega)
  rw [e]
  exact ⟨rfl, hE⟩
 ·refine q_skip (k_block (k_then (wc_seq (wc_regionL ?_))))
  refine va rfl rfl ?_
  refine q_nil (k_then (q_ret ?_))
  refine e_ret rfl rfl ?_
  have e : cnIn s p = 0 := if_pos (by omega)
  rw [e]
  exact ⟨rfl, hE⟩
theorem cphase_ok (w : World) (g a b : Nat) (s : Cn) (gb gd : Nat) (Db Dd : Option Nat) (K : Option Addr) (ck : Nat) (V : Option Addr) (cv : Nat) (T : Option Addr) (ct : Nat) (X : Option Addr) (cx : Nat) (xs : List IT) (N : Option Addr) (cn : Nat) (A : Option Addr) (c : Nat) (hb_g : Blk w g 57 (cnc s (⟨gb, gd, Db, Dd, K, ck, V, cv, T, ct, X, cx, xs, N, cn, A, c⟩ : CnP))) (hR : CnR w g a b s (⟨gb, gd, Db, Dd, K, ck, V, cv, T, ct, X, cx, xs, N, cn, A, c⟩ : CnP)) :
  Fn Tryz.prog 25 #[(.pointer (some ⟨g, 0, none⟩))] w (fun v w' => v = .int .i64 (s.ph : Int) ∧ Ext w w')  := by
 replace hb_g : Blk w g 57 [(.pointer (some ⟨gb, 0, none⟩)), (.int .i64 (↑s.ci : Int)), (.int .i64 (↑s.co : Int)), (.int .i64 (↑s.cp : Int)), (.pointer (some ⟨gd, 0, none⟩)), (.int .i64 (↑s.ph : Int)), (.int .i64 s.cmd.op), (.string (strB s.cmd.key)), (.slice K s.cmd.keys.length ck), (.slice V s.cmd.value.length cv), (.slice T s.cmd.tags.length ct), (.int .u64 (↑s.cmd.life : Int)), (.int .u64 (↑s.cmd.ver : Int)), (.string (strB s.cmd.tag)), (.string (strB s.cmd.pre)), (.string (strB s.cmd.child)), (.int .i64 s.ans.op), (.int .i64 s.ans.err), (.slice X s.ans.items.length cx), (.int .u64 (↑s.ans.ver : Int)), (.int .i64 s.ans.count), (.slice N s.ans.nums.length cn), (.slice A s.bs.length c)] := hb_g
 have hW := hR.bnd
 have hgl := hb_g.lt
 have hok := hR.ok
 obtain ⟨kp1, kp2, ki1, ki2, ko1, khl, kph1, kph4, ksz, kbl, kan, kcb⟩ := id hok
 have hne1 := hR.ne1
 have hne2 := hR.ne2
 have hne3 := hR.ne3
 have hE := ext_refl w
 refine fn_enter (args := [(.pointer (some ⟨g, 0, none⟩))]) Tryz.func25 rfl rfl rfl ?_
 show WC _ _ _ _ [(0, (.pointer (some ⟨g, 0, none⟩)))] _
 refine wc_seq (wc_regionL ?_)
 refine va rfl rfl ?_
 refine q_nil (k_then (wc_seq (wc_seq (wc_regionL ?_))))
 refine vm rfl rfl ?_
 refine wl_val (or_call0 cl39 rfl rfl (czero_ok _ g s gb gd Db Dd K ck V cv T ct X cx xs N cn A c hb_g)) rfl rfl rfl ?_
 refine q_nil (k_then ?_)
 refine wc_cond_f rfl ?_
 refine q_skip (k_then (wc_seq (wc_regionL ?_)))
 refine vm rfl rfl ?_
 refine vn rfl rfl ?_
 refine wl_val (ov_field0 (off := 5) fo57_3 rfl) rfl rfl rfl ?_
 refine wl_val (ov_loadAt oc33 rfl hb_g rfl) rfl rfl rfl ?_
 refine va rfl rfl ?_
 refine q_nil (k_then (q_ret ?_))
 refine e_ret rfl rfl ?_
 exact ⟨rfl, hE⟩
theorem csizes_ok (w : World) (g a b : Nat) (s : Cn) (gb gd : Nat) (Db Dd : Option Nat) (K : Option Addr) (ck : Nat) (V : Option Addr) (cv : Nat) (T : Option Addr) (ct : Nat) (X : Option Addr) (cx : Nat) (xs : List IT) (N : Option Addr) (cn : Nat) (A : Option Addr) (c : Nat) (hb_g : Blk w g 57 (cnc s (⟨gb, gd, Db, Dd, K, ck, V, cv, T, ct, X, cx, xs, N, cn, A, c⟩ : CnP))) (hR : CnR w g a b s (⟨gb, gd, Db, Dd, K, ck, V, cv, T, ct, X, cx, xs, N, cn, A, c⟩ : CnP)) :
  Fn Tryz.prog 21 #[(.pointer (some ⟨g, 0, none⟩))] w (fun v w' => v = .tuple #[.int .i64 (dheld s.cl s.held : Int), .int .i64 (s.out.length : Int)] ∧ Ext w w')  := by
 replace hb_g : Blk w g 57 [(.pointer (some ⟨gb, 0, none⟩)), (.int .i64 (↑s.ci : Int)), (.int .i64 (↑s.co : Int)), (.int .i64 (↑s.cp : Int)), (.pointer (some ⟨gd, 0, none⟩)), (.int .i64 (↑s.ph : Int)), (.int .i64 s.cmd.op), (.string (strB s.cmd.key)), (.slice K s.cmd.keys.length ck), (.slice V s.cmd.value.length cv), (.slice T s.cmd.tags.length ct), (.int .u64 (↑s.cmd.life : Int)), (.int .u64 (↑s.cmd.ver : Int)), (.string (strB s.cmd.tag)), (.string (strB s.cmd.pre)), (.string (strB s.cmd.child)), (.int .i64 s.ans.op), (.int .i64 s.ans.err), (.slice X s.ans.items.length cx), (.int .u64 (↑s.ans.ver : Int)), (.int .i64 s.ans.count), (.slice N s.ans.nums.length cn), (.slice A s.bs.length c)] := hb_g
 have hW := hR.bnd
 have hgl := hb_g.lt
 have hok := hR.ok
 obtain ⟨kp1, kp2, ki1, ki2, ko1, khl, kph1, kph4, ksz, kbl, kan, kcb⟩ := id hok
 have hne1 := hR.ne1
 have hne2 := hR.ne2
 have hne3 := hR.ne3
 have hE := ext_refl w
 refine fn_enter (args := [(.pointer (some ⟨g, 0, none⟩))]) Tryz.func21 rfl rfl rfl ?_
 show WC _ _ _ _ [(0, (.pointer (some ⟨g, 0, none⟩)))] _
 refine wc_seq (wc_regionL ?_)
 iterate 2 refine va rfl rfl ?_
 refine q_nil (k_then (wc_seq (wc_seq (wc_regionL ?_))))
 refine vm rfl rfl ?_
 refine wl_val (or_call0 cl39 rfl rfl (czero_ok _ g s gb gd Db Dd K ck V cv T ct X cx xs N cn A c hb_g)) rfl rfl rfl ?_
 refine q_nil (k_then ?_)
 refine wc_cond_f rfl ?_
 refine q_skip (k_then (wc_seq ?_))
 refine wc_draw mixed 9 [(6, eqv (.pointer (some ⟨g, 0, none⟩))), (7, eqv (.pointer (some ⟨g, 0, none⟩))), (8, eqv (.pointer (some ⟨g, 4, none⟩))), (9, eqv (.pointer (some ⟨gd, 0, none⟩))), (10, eqv (.int .i64 (↑(dheld s.cl s.held) : Int))), (11, eqv (.pointer (some ⟨g, 0, none⟩))), (12, eqv (.pointer (some ⟨g, 0, none⟩))), (13, eqv (.pointer (some ⟨g, 0, none⟩))), (14, eqv (.pointer (some ⟨gb, 0, none⟩)))] [[], [0], [1], [2], [3], [], [5], [6], [7]] _ [] [] (fun _ _ h => h) trivial (by kernel_rfl) rfl ⟨⟨stb_eqv _, fun _ he => by cases he⟩, ⟨stb_eqv _, fun _ he => by cases he⟩, ⟨stb_eqv _, fun _ he => by cases he⟩, ⟨stb_eqv _, fun _ he => by cases he⟩, ⟨stb_eqv _, fun _ he => by cases he⟩, ⟨stb_eqv _, fun _ he => by cases he⟩, ⟨stb_eqv _, fun _ he => by cases he⟩, ⟨stb_eqv _, fun _ he => by cases he⟩, ⟨stb_eqv _, fun _ he => by cases he⟩, trivial⟩ ⟨?_, ?_, ?_, ?_, ?_, ?_, ?_, ?_, ?_, trivial⟩ ?_
 ·intro wd hxE
  have hz_hxE := hxE.size
  show OpG _ _ _ _ _ _
  exact og_plain rfl (ox_val (ov_move rfl))
 ·intro wd hxE
  have hz_hxE := hxE.size
  rintro _ rfl
  show OpG _ _ _ _ _ _
  exact og_plain rfl (ox_val (ov_nilCheck rfl))
 ·intro wd hxE
  have hz_hxE := hxE.size
  rintro _ rfl
  show OpG _ _ _ _ _ _
  exact og_plain rfl (ox_val (ov_field0 (off := 4) fo57_2 rfl))
 ·intro wd hxE
  replace hb_g := hb_g.ext hxE
  have hz_hxE := hxE.size
  rintro _ rfl
  show OpG _ _ _ _ _ _
  exact og_plain rfl (ox_val (ov_loadAt oc55 rfl hb_g rfl))
 ·intro wd hxE
  replace hR := hR.ext hxE
  have hz_hxE := hxE.size
  rintro _ rfl
  show OpG _ _ _ _ _ _
  refine og_plain rfl (OpRun.mono (or_call0 cl41 rfl rfl (dheld_ok _ 0 gd Dd s.cp s.cl s.held hR.dec (by omega))) ?_)
  rintro v w1 ⟨rfl, he10⟩
  have hz_he10 := he10.size
  exact ⟨rfl, he10⟩
 ·intro wd hxE
  have hz_hxE := hxE.size
  show OpG _ _ _ _ _ _
  exact og_plain rfl (ox_val (ov_move rfl))
 ·intro wd hxE
  have hz_hxE := hxE.size
  rintro _ rfl
  show OpG _ _ _ _ _ _
  exact og_plain rfl (ox_val (ov_nilCheck rfl))
 ·intro wd hxE
  have hz_hxE := hxE.size
  rintro _ rfl
  show OpG _ _ _ _ _ _
  exact og_plain rfl (ox_val (ov_field0 (off := 0) fo57_0 rfl))
 ·intro wd hxE
  replace hb_g := hb_g.ext hxE
  have hz_hxE := hxE.size
  rintro _ rfl
  show OpG _ _ _ _ _ _
  exact og_plain rfl (ox_val (ov_loadAt oc54 rfl hb_g rfl))
 ·intro wf3 hf3
  replace hR := hR.ext hf3
  replace hE := hE.tr hf3
  have hz_hf3 := hf3.size
  rintro _ rfl
  rintro _ rfl
  rintro _ rfl
  rintro _ rfl
  rintro _ rfl
  rintro _ rfl
  rintro _ rfl
  rintro _ rfl
  rintro _ rfl
  show WL _ _ _ [_, _, _] _ _ _
  refine wl_step (or_call0 cl50 rfl rfl (blen_ok _ 0 gb Db s.co s.out s.pt s.tk hR.buf)) rfl rfl rfl ?_
  rintro v w1 ⟨rfl, he15⟩
  replace hE := hE.tr he15
  have hz_he15 := he15.size
  iterate 2 refine va rfl rfl ?_
  refine q_nil (k_then (q_ret ?_))
  refine e_ret2 rfl rfl rfl ?_
  exact ⟨rfl, hE⟩
theorem cvalid_any (w : World) (i o p : Int) (hi1 : -9223372036854775808 ≤ i) (hi2 : i ≤ 9223372036854775807) (ho1 : -9223372036854775808 ≤ o) (ho2 : o ≤ 9223372036854775807) (hp1 : -9223372036854775808 ≤ p) (hp2 : p ≤ 9223372036854775807) :
  Fn Tryz.prog 27 #[(.agg #[(.int .i64 i), (.int .i64 o), (.int .i64 p)])] w (fun v w' => v = .bool (decide (cfOk i o p)) ∧ Ext w w')  := by
 have hE := ext_refl w
 refine fn_enter (args := [(.agg #[(.int .i64 i), (.int .i64 o), (.int .i64 p)])]) Tryz.func27 rfl rfl rfl ?_
 show WC _ _ _ _ [(0, (.agg #[(.int .i64 i), (.int .i64 o), (.int .i64 p)]))] _
 refine wc_seq (wc_regionL ?_)
 refine wl_step (or_box (cs := [(.int .i64 i), (.int .i64 o), (.int .i64 p)]) rfl rfl) rfl rfl rfl ?_
 rintro v w1 ⟨g1, rfl, hb_g1, he1, hl1, hu1⟩
 replace hE := hE.tr he1
 have hz_he1 := he1.size
 refine va rfl rfl ?_
 refine q_nil (k_then (wc_seq (wc_block (wc_seq (wc_regionL ?_)))))
 refine wl_val (ov_field0 (off := 2) fo23_2 rfl) rfl rfl rfl ?_
 refine wl_val (ov_loadAt oc3 rfl hb_g1 rfl) rfl rfl rfl ?_
 refine wl_val (ov_lss rfl rfl) rfl rfl rfl ?_
 refine wl_case_d (d := 6) rfl (fun h6 => ?_) (fun h6 => ?_)
 ·refine vm rfl rfl ?_
  iterate 3 refine wl_gskip rfl rfl rfl rfl rfl rfl ?_
  refine wl_val (ov_pick_t rfl rfl) rfl rfl rfl ?_
  refine va rfl rfl ?_
  refine q_nil (k_then ?_)
  refine wc_cond_t rfl ?_
  refine wc_seq (wc_regionL ?_)
  refine va rfl rfl ?_
  refine q_nil (k_then (q_ret (k_blockR (k_thenR ?_))))
  refine e_ret rfl rfl ?_
  first
   | (rw [decide_eq_true (show cfOk i o p from ⟨by omega, by omega, by omega, by omega, by omega, by omega⟩)]; exact ⟨rfl, hE⟩)
   | (rw [decide_eq_false (show ¬ cfOk i o p from fun q => by obtain ⟨q1, q2, q3, q4, q5, q6⟩ := q; omega)]; exact ⟨rfl, hE⟩)
 ·refine vm rfl rfl ?_
  refine wl_gval (ov_field0 (off := 2) fo23_2 rfl) rfl rfl rfl rfl rfl ?_
  refine wl_gval (ov_loadAt oc3 rfl hb_g1 rfl) rfl rfl rfl rfl rfl ?_
  refine wl_gval (ov_gtr rfl rfl) rfl rfl rfl rfl rfl ?_
  refine wl_case_d (d := 10) rfl (fun h10 => ?_) (fun h10 => ?_)
  ·refine wl_val (ov_pick_f rfl rfl) rfl rfl rfl ?_
   refine va rfl rfl ?_
   refine q_nil (k_then ?_)
   refine wc_cond_t rfl ?_
   refine wc_seq (wc_regionL ?_)
   refine va rfl rfl ?_
   refine q_nil (k_then (q_ret (k_blockR (k_thenR ?_))))
   refine e_ret rfl rfl ?_
   first
    | (rw [decide_eq_true (show cfOk i o p from ⟨by omega, by omega, by omega, by omega, by omega, by omega⟩)]; exact ⟨rfl, hE⟩)
    | (rw [decide_eq_false (show ¬ cfOk i o p from fun q => by obtain ⟨q1, q2, q3, q4, q5, q6⟩ := q; omega)]; exact ⟨rfl, hE⟩)
  ·refine wl_val (ov_pick_f rfl rfl) rfl rfl rfl ?_
   refine va rfl rfl ?_
   refine q_nil (k_then ?_)
   refine wc_cond_f rfl ?_
   refine wc_seq (wc_regionL ?_)
   refine wl_val (ov_field0 (off := 0) fo23_0 rfl) rfl rfl rfl ?_
   refine wl_val (ov_loadAt oc3 rfl hb_g1 rfl) rfl rfl rfl ?_
   refine wl_val (ov_field0 (off := 2) fo23_2 rfl) rfl rfl rfl ?_
   refine wl_val (ov_loadAt oc3 rfl hb_g1 rfl) rfl rfl rfl ?_
   refine wl_val (ov_add rfl rfl (wi64 (by omega) (by omega))) rfl rfl rfl ?_
   refine wl_val (ov_lss rfl rfl) rfl rfl rfl ?_
   refine wl_case_d (d := 18) rfl (fun h18 => ?_) (fun h18 => ?_)
   ·refine vm rfl rfl ?_
    iterate 3 refine wl_gskip rfl rfl rfl rfl rfl rfl ?_
    refine wl_val (ov_pick_t rfl rfl) rfl rfl rfl ?_
    refine va rfl rfl ?_
    refine q_nil (k_then ?_)
    refine wc_cond_t rfl ?_
    refine wc_seq (wc_regionL ?_)
    refine va rfl rfl ?_
    refine q_nil (k_then (q_ret (k_blockR (k_thenR ?_))))
    refine e_ret rfl rfl ?_
    first
     | (rw [decide_eq_true (show cfOk i o p from ⟨by omega, by omega, by omega, by omega, by omega, by omega⟩)]; exact ⟨rfl, hE⟩)
     | (rw [decide_eq_false (show ¬ cfOk i o p from fun q => by obtain ⟨q1, q2, q3, q4, q5, q6⟩ := q; omega)]; exact ⟨rfl, hE⟩)
   ·refine vm rfl rfl ?_
    refine wl_gval (ov_field0 (off := 0) fo23_0 rfl) rfl rfl rfl rfl rfl ?_
    refine wl_gval (ov_loadAt oc3 rfl hb_g1 rfl) rfl rfl rfl rfl rfl ?_
    refine wl_gval (ov_gtr rfl rfl) rfl rfl rfl rfl rfl ?_
    refine wl_case_d (d := 22) rfl (fun h22 => ?_) (fun h22 => ?_)
    ·refine wl_val (ov_pick_f rfl rfl) rfl rfl rfl ?_
     refine va rfl rfl ?_
     refine q_nil (k_then ?_)
     refine wc_cond_t rfl ?_
     refine wc_seq (wc_regionL ?_)
     refine va rfl rfl ?_
     refine q_nil (k_then (q_ret (k_blockR (k_thenR ?_))))
     refine e_ret rfl rfl ?_
     first
      | (rw [decide_eq_true (show cfOk i o p from ⟨by omega, by omega, by omega, by omega, by omega, by omega⟩)]; exact ⟨rfl, hE⟩)
      | (rw [decide_eq_false (show ¬ cfOk i o p from fun q => by obtain ⟨q1, q2, q3, q4, q5, q6⟩ := q; omega)]; exact ⟨rfl, hE⟩)
    ·refine wl_val (ov_pick_f rfl rfl) rfl rfl rfl ?_
     refine va rfl rfl ?_
     refine q_nil (k_then ?_)
     refine wc_cond_f rfl ?_
     refine q_skip (k_block (k_then (wc_seq (wc_regionL ?_))))
     refine wl_val (ov_field0 (off := 1) fo23_1 rfl) rfl rfl rfl ?_
     refine wl_val (ov_loadAt oc3 rfl hb_g1 rfl) rfl rfl rfl ?_
     refine wl_val (ov_geq rfl rfl) rfl rfl rfl ?_
     refine wl_case_d (d := 26) rfl (fun h26 => ?_) (fun h26 => ?_)
     ·refine vm rfl rfl ?_
      refine wl_gval (ov_field0 (off := 1) fo23_1 rfl) rfl rfl rfl rfl rfl ?_
      refine wl_gval (ov_loadAt oc3 rfl hb_g1 rfl) rfl rfl rfl rfl rfl ?_
      refine wl_gval (ov_leq rfl rfl) rfl rfl rfl rfl rfl ?_
      refine wl_case_d (d := 30) rfl (fun h30 => ?_) (fun h30 => ?_)
      ·refine wl_val (ov_pick_t rfl rfl) rfl rfl rfl ?_
       refine va rfl rfl ?_
       refine q_nil (k_then (q_ret ?_))
       refine e_ret rfl rfl ?_
       first
        | (rw [decide_eq_true (show cfOk i o p from ⟨by omega, by omega, by omega, by omega, by omega, by omega⟩)]; exact ⟨rfl, hE⟩)
        | (rw [decide_eq_false (show ¬ cfOk i o p from fun q => by obtain ⟨q1, q2, q3, q4, q5, q6⟩ := q; omega)]; exact ⟨rfl, hE⟩)
      ·refine wl_val (ov_pick_t rfl rfl) rfl rfl rfl ?_
       refine va rfl rfl ?_
       refine q_nil (k_then (q_ret ?_))
       refine e_ret rfl rfl ?_
       first
        | (rw [decide_eq_true (show cfOk i o p from ⟨by omega, by omega, by omega, by omega, by omega, by omega⟩)]; exact ⟨rfl, hE⟩)
        | (rw [decide_eq_false (show ¬ cfOk i o p from fun q => by obtain ⟨q1, q2, q3, q4, q5, q6⟩ := q; omega)]; exact ⟨rfl, hE⟩)
     ·refine vm rfl rfl ?_
      iterate 3 refine wl_gskip rfl rfl rfl rfl rfl rfl ?_
      refine wl_val (ov_pick_f rfl rfl) rfl rfl rfl ?_
      refine va rfl rfl ?_
      refine q_nil (k_then (q_ret ?_))
      refine e_ret rfl rfl ?_
      first
       | (rw [decide_eq_true (show cfOk i o p from ⟨by omega, by omega, by omega, by omega, by omega, by omega⟩)]; exact ⟨rfl, hE⟩)
       | (rw [decide_eq_false (show ¬ cfOk i o p from fun q => by obtain ⟨q1, q2, q3, q4, q5, q6⟩ := q; omega)]; exact ⟨rfl, hE⟩)
/-- A connection in memory: its block, the blocks that its steps may change, from where to where what is read alone lies. -/
def Cnn (w : World) (g : Nat) (S : List Nat) (a b : Nat) (s : Cn) : Prop := ∃ p : CnP, S = cnS g p ∧ Blk w g 57 (cnc s p) ∧ CnR w g a b s p
theorem Cnn.mk {w : World} {g a b : Nat} {s : Cn} (p : CnP) (hb : Blk w g 57 (cnc s p)) (hR : CnR w g a b s p) : Cnn w g (cnS g p) a b s := ⟨p, rfl, hb, hR⟩
theorem cnew_ok (w : World) (i o p : Nat) (hc : 16 ≤ p ∧ p ≤ 2097152 ∧ p + 8 ≤ i ∧ i ≤ 4194304 ∧ 64 ≤ o ∧ o ≤ 1048576) :
  Fn Tryz.prog 11 #[(.agg #[(.int .i64 (↑i : Int)), (.int .i64 (↑o : Int)), (.int .i64 (↑p : Int))])] w (fun v w' => ∃ g S a, v = .tuple #[.pointer (some ⟨g, 0, none⟩), .int .i64 0] ∧ Cnn w' g S a a (cnNew i o p) ∧ (∀ x ∈ S, w.heap.size ≤ x) ∧ Ext w w')  := by
 have hE := ext_refl w
 have hc6 := hc
 refine fn_enter (args := [(.agg #[(.int .i64 (↑i : Int)), (.int .i64 (↑o : Int)), (.int .i64 (↑p : Int))])]) Tryz.func11 rfl rfl rfl ?_
 show WC _ _ _ _ [(0, (.agg #[(.int .i64 (↑i : Int)), (.int .i64 (↑o : Int)), (.int .i64 (↑p : Int))]))] _
 refine wc_seq (wc_regionL ?_)
 refine wl_step (or_box (cs := [(.int .i64 (↑i : Int)), (.int .i64 (↑o : Int)), (.int .i64 (↑p : Int))]) rfl rfl) rfl rfl rfl ?_
 rintro v w1 ⟨g1, rfl, hb_g1, he1, hl1, hu1⟩
 replace hE := hE.tr he1
 have hz_he1 := he1.size
 iterate 2 refine va rfl rfl ?_
 refine q_nil (k_then (wc_seq (wc_seq (wc_regionL ?_))))
 refine wl_val (ov_loadBlk (cs := [(.int .i64 (↑i : Int)), (.int .i64 (↑o : Int)), (.int .i64 (↑p : Int))]) ag23_3 rfl hb_g1) rfl rfl rfl ?_
 refine wl_step (or_call0 cl27 rfl rfl (cvalid_any _ (↑i : Int) (↑o : Int) (↑p : Int) (by omega) (by omega) (by omega) (by omega) (by omega) (by omega))) rfl rfl rfl ?_
 rintro v w2 ⟨rfl, he9⟩
 replace hE := hE.tr he9
 replace hb_g1 := hb_g1.ext he9
 have hz_he9 := he9.size
 refine wl_spell (d := 9) rfl (bt (by unfold cfOk; omega)) ?_
 refine wl_val (ov_not (b := true) rfl) rfl rfl rfl ?_
 refine q_nil (k_then ?_)
 refine wc_cond_f rfl ?_
 refine q_skip (k_then (wc_seq (wc_regionL ?_)))
 refine wl_val (ov_field0 (off := 1) fo23_1 rfl) rfl rfl rfl ?_
 refine wl_val (ov_loadAt oc3 rfl hb_g1 rfl) rfl rfl rfl ?_
 refine wl_step (or_call0 cl33 rfl rfl (bnew_ok _ (o) (by omega) (by omega))) rfl rfl rfl ?_
 rintro v w3 ⟨gn14, rfl, hb14, he14, hg114⟩
 replace hE := hE.tr he14
 replace hb_g1 := hb_g1.ext he14
 have hz_he14 := he14.size
 have hDs14 : ∀ x, (none : Option Nat) = some x → w2.heap.size ≤ x ∧ x < w3.heap.size := fun x e => by cases e
 have hzb14 := hb14.lt.1
 have hcp14 := hb14.cap
 refine vm rfl rfl ?_
 iterate 2 refine vx rfl rfl rfl ?_
 iterate 2 refine va rfl rfl ?_
 refine q_nil (k_then (wc_seq (wc_regionL ?_)))
 refine wl_val (ov_field0 (off := 2) fo23_2 rfl) rfl rfl rfl ?_
 refine wl_val (ov_loadAt oc3 rfl hb_g1 rfl) rfl rfl rfl ?_
 refine wl_step (or_call0 cl34 rfl rfl (dnew_ok _ (p) (by omega))) rfl rfl rfl ?_
 rintro v w4 ⟨gn20, rfl, hb20, he20, hg120⟩
 replace hE := hE.tr he20
 replace hb_g1 := hb_g1.ext he20
 replace hb14 := hb14.ext he20
 have hz_he20 := he20.size
 have hDs20 : ∀ x, (none : Option Nat) = some x → w3.heap.size ≤ x ∧ x < w4.heap.size := fun x e => by cases e
 have hzb20 := hb20.lt.1
 have hcp20 := hb20.cap
 have hnl20 : ([] : List UInt8).length = 0 := rfl
 refine vm rfl rfl ?_
 iterate 2 refine vx rfl rfl rfl ?_
 iterate 2 refine va rfl rfl ?_
 refine q_nil (k_then (wc_seq (wc_seq (wc_regionL ?_))))
 refine vm rfl rfl ?_
 refine wl_val (ov_neq rfl rfl) rfl rfl rfl ?_
 refine vm rfl rfl ?_
 refine wl_gval (ov_move rfl) rfl rfl rfl rfl rfl ?_
 refine wl_gval (ov_neq rfl rfl) rfl rfl rfl rfl rfl ?_
 refine wl_val (ov_pick_f rfl rfl) rfl rfl rfl ?_
 refine q_nil (k_then ?_)
 refine wc_cond_f rfl ?_
 refine q_skip (k_then (wc_seq (wc_regionL ?_)))
 refine vm rfl rfl ?_
 refine wl_val (ov_loadBlk (cs := [(.int .i64 (↑i : Int)), (.int .i64 (↑o : Int)), (.int .i64 (↑p : Int))]) ag23_3 rfl hb_g1) rfl rfl rfl ?_
 refine vm rfl rfl ?_
 refine wl_val (ov_build (cs := [(.pointer (some ⟨gn14, 0, none⟩)), (.int .i64 (↑i : Int)), (.int .i64 (↑o : Int)), (.int .i64 (↑p : Int)), (.pointer (some ⟨gn20, 0, none⟩)), (.int .i64 1), (.int .i64 0), (.string (strB [])), (.slice none 0 0), (.slice none 0 0), (.slice none 0 0), (.int .u64 0), (.int .u64 0), (.string (strB [])), (.string (strB [])), (.string (strB [])), (.int .i64 0), (.int .i64 0), (.slice none 0 0), (.int .u64 0), (.int .i64 0), (.slice none 0 0), (.slice none 0 0)]) ze57 pl57 rfl (by kernel_rfl)) rfl rfl rfl ?_
 refine wl_step (or_box (cs := [(.pointer (some ⟨gn14, 0, none⟩)), (.int .i64 (↑i : Int)), (.int .i64 (↑o : Int)), (.int .i64 (↑p : Int)), (.pointer (some ⟨gn20, 0, none⟩)), (.int .i64 1), (.int .i64 0), (.string (strB [])), (.slice none 0 0), (.slice none 0 0), (.slice none 0 0), (.int .u64 0), (.int .u64 0), (.string (strB [])), (.string (strB [])), (.string (strB [])), (.int .i64 0), (.int .i64 0), (.slice none 0 0), (.int .u64 0), (.int .i64 0), (.slice none 0 0), (.slice none 0 0)]) rfl rfl) rfl rfl rfl ?_
 rintro v w5 ⟨g33, rfl, hb_g33, he33, hl33, hu33⟩
 replace hE := hE.tr he33
 replace hb14 := hb14.ext he33
 replace hb20 := hb20.ext he33
 have hz_he33 := he33.size
 iterate 2 refine va rfl rfl ?_
 refine q_nil (k_then (q_ret ?_))
 refine e_ret2 rfl rfl rfl ?_
 refine ⟨g33, _, w5.heap.size, rfl, Cnn.mk (s := cnNew i o p) ⟨gn14, gn20, none, none, none, 0, none, 0, none, 0, none, 0, [], none, 0, none, 0⟩ hb_g33 ?_, ?_, hE⟩
 ·refine ⟨Buf.mono hb14 (Nat.zero_le _), Dec.mono hb20 (Nat.zero_le _), Rd.nil _ _ _ _ _ _ (Nat.zero_le _), Rd.nil _ _ _ _ _ _ (Nat.zero_le _), Rd.nil _ _ _ _ _ _ (Nat.zero_le _), rfl, RdI.nil _ _ _, Rd.nil _ _ _ _ _ _ (Nat.zero_le _), Rd.nil _ _ _ _ _ _ (Nat.zero_le _), ?_, by omega, ?_, ⟨(fun e => by cases e), (fun e => by cases e), (fun e => by cases e)⟩, ⟨(fun e => by cases e), (fun e => by cases e), (fun e => by cases e)⟩, (fun x e => by cases e), ?_⟩
  ·intro x hx
   rcases mem_cnS.1 hx with e | e | e | e | e
   ·omega
   ·have e2 : x = gn14 := e; omega
   ·have e2 : x = gn20 := e; omega
   ·cases e
   ·cases e
  ·show g33 ≠ gn14 ∧ g33 ≠ gn20 ∧ gn14 ≠ gn20; omega
  ·exact ⟨hc.1, hc.2.1, hc.2.2.1, hc.2.2.2.1, hc.2.2.2.2.1, Nat.zero_le _, Nat.le_refl _, by show 1 ≤ 4; decide, by show 0 + 10 * 0 + 100 ≤ _; decide, Nat.zero_le _, .inr ⟨rfl, rfl⟩, ⟨Nat.zero_le _, Nat.zero_le _, Nat.zero_le _⟩⟩
 ·intro x hx
  rcases mem_cnS.1 hx with e | e | e | e | e
  ·omega
  ·have e2 : x = gn14 := e; omega
  ·have e2 : x = gn20 := e; omega
  ·cases e
  ·cases e
theorem cnew_bad (w : World) (i o p : Int) (hc : ¬ cfOk i o p) (hi1 : -9223372036854775808 ≤ i) (hi2 : i ≤ 9223372036854775807) (ho1 : -9223372036854775808 ≤ o) (ho2 : o ≤ 9223372036854775807) (hp1 : -9223372036854775808 ≤ p) (hp2 : p ≤ 9223372036854775807) :
  Fn Tryz.prog 11 #[(.agg #[(.int .i64 i), (.int .i64 o), (.int .i64 p)])] w (fun v w' => v = .tuple #[.pointer none, .int .i64 2] ∧ Ext w w')  := by
 have hE := ext_refl w
 refine fn_enter (args := [(.agg #[(.int .i64 i), (.int .i64 o), (.int .i64 p)])]) Tryz.func11 rfl rfl rfl ?_
 show WC _ _ _ _ [(0, (.agg #[(.int .i64 i), (.int .i64 o), (.int .i64 p)]))] _
 refine wc_seq (wc_regionL ?_)
 refine wl_step (or_box (cs := [(.int .i64 i), (.int .i64 o), (.int .i64 p)]) rfl rfl) rfl rfl rfl ?_
 rintro v w1 ⟨g1, rfl, hb_g1, he1, hl1, hu1⟩
 replace hE := hE.tr he1
 have hz_he1 := he1.size
 iterate 2 refine va rfl rfl ?_
 refine q_nil (k_then (wc_seq (wc_seq (wc_regionL ?_))))
 refine wl_val (ov_loadBlk (cs := [(.int .i64 i), (.int .i64 o), (.int .i64 p)]) ag23_3 rfl hb_g1) rfl rfl rfl ?_
 refine wl_step (or_call0 cl27 rfl rfl (cvalid_any _ i o p (by omega) (by omega) (by omega) (by omega) (by omega) (by omega))) rfl rfl rfl ?_
 rintro v w2 ⟨rfl, he9⟩
 replace hE := hE.tr he9
 have hz_he9 := he9.size
 refine wl_spell (d := 9) rfl (bf (hc)) ?_
 refine wl_val (ov_not (b := false) rfl) rfl rfl rfl ?_
 refine q_nil (k_then ?_)
 refine wc_cond_t rfl ?_
 refine wc_seq (wc_regionL ?_)
 iterate 2 refine va rfl rfl ?_
 refine q_nil (k_then (q_ret (k_thenR ?_)))
 refine e_ret2 rfl rfl rfl ?_
 exact ⟨rfl, hE⟩
end Go.Proofs.YtiighkbehiddkaaGreat