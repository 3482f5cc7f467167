/-
 The contracts of a connection: Command, Response, Answer, Copy.
-/
import Derived.Test.YtiighkbehiddkaaGreatCc
namespace Go.Proofs.YtiighkbehiddkaaGreat
open Go.RowKit
set_option linter.unusedVariables false
set_option maxRecDepth 4000
theorem cl45 : callable Tryz.prog 45 = true := by kernel_rfl
theorem cl46 : callable Tryz.prog 46 = true := by kernel_rfl
theorem cl48 : callable Tryz.prog 48 = true := by kernel_rfl
theorem cl53 : callable Tryz.prog 53 = true := by kernel_rfl
theorem RdI.wide {w : World} {lo hi lo' hi' cx : Nat} {X : Option Addr} {xs : List IT} (h : RdI w lo hi X cx xs) (h1 : lo' ≤ lo) (h2 : hi ≤ hi') : RdI w lo' hi' X cx xs := ⟨h.1.mono h1 h2, fun x hx => (h.2 x hx).mono h1 h2⟩
theorem ccmd_ok (w : World) (g a b : Nat) (s : Cn) (gb gd : Nat) (Db Dd : Option Nat) (K : Option Addr) (ck : Nat) (V : Option Addr) (cv : Nat) (T : Option Addr) (ct : Nat) (X : Option Addr) (cx : Nat) (xs : List IT) (N : Option Addr) (cn : Nat) (A : Option Addr) (c : Nat) (hb_g : Blk w g 57 (cnc s (⟨gb, gd, Db, Dd, K, ck, V, cv, T, ct, X, cx, xs, N, cn, A, c⟩ : CnP))) (hR : CnR w g a b s (⟨gb, gd, Db, Dd, K, ck, V, cv, T, ct, X, cx, xs, N, cn, A, c⟩ : CnP)) :
  Fn Tryz.prog 18 #[(.pointer (some ⟨g, 0, none⟩))] w (fun v w' => ∃ K' ck' V' cv' T' ct', v = .tuple #[.agg (cmdc (cnCmd s) K' ck' V' cv' T' ct').toArray, .int .i64 (cnIn s 2 : Int)] ∧ RdS w' w.heap.size w'.heap.size K' ck' (cnCmd s).keys ∧ RdB w' w.heap.size w'.heap.size V' cv' (cnCmd s).value ∧ RdS w' w.heap.size w'.heap.size T' ct' (cnCmd s).tags ∧ Ext w w')  := by
 replace hb_g : Blk w g 57 [(.pointer (some ⟨gb, 0, none⟩)), (.int .i64 (↑s.ci : Int)), (.int .i64 (↑s.co : Int)), (.int .i64 (↑s.cp : Int)), (.pointer (some ⟨gd, 0, none⟩)), (.int .i64 (↑s.ph : Int)), (.int .i64 s.cmd.op), (.string (strB s.cmd.key)), (.slice K s.cmd.keys.length ck), (.slice V s.cmd.value.length cv), (.slice T s.cmd.tags.length ct), (.int .u64 (↑s.cmd.life : Int)), (.int .u64 (↑s.cmd.ver : Int)), (.string (strB s.cmd.tag)), (.string (strB s.cmd.pre)), (.string (strB s.cmd.child)), (.int .i64 s.ans.op), (.int .i64 s.ans.err), (.slice X s.ans.items.length cx), (.int .u64 (↑s.ans.ver : Int)), (.int .i64 s.ans.count), (.slice N s.ans.nums.length cn), (.slice A s.bs.length c)] := hb_g
 have hW := hR.bnd
 have hgl := hb_g.lt
 have hok := hR.ok
 obtain ⟨kp1, kp2, ki1, ki2, ko1, khl, kph1, kph4, ksz, kbl, kan, kcb⟩ := id hok
 have hne1 := hR.ne1
 have hne2 := hR.ne2
 have hne3 := hR.ne3
 have hE := ext_refl w
 refine fn_enter (args := [(.pointer (some ⟨g, 0, none⟩))]) Tryz.func18 rfl rfl rfl ?_
 show WC _ _ _ _ [(0, (.pointer (some ⟨g, 0, none⟩)))] _
 refine wc_seq (wc_regionL ?_)
 refine wl_step (or_alloc (cs := [(.int .i64 0), (.string (strB [])), (.slice none 0 0), (.slice none 0 0), (.slice none 0 0), (.int .u64 0), (.int .u64 0), (.string (strB [])), (.string (strB [])), (.string (strB []))]) ze39 rfl) rfl rfl rfl ?_
 rintro v w1 ⟨g2, rfl, hb_g2, he2, hl2, hu2⟩
 replace hb_g := hb_g.ext he2
 replace hR := hR.ext he2
 replace hE := hE.tr he2
 have hz_he2 := he2.size
 refine va rfl rfl ?_
 refine q_nil (k_then (wc_seq (wc_seq (wc_regionL ?_))))
 refine vm rfl rfl ?_
 refine wl_step (or_call0 cl45 rfl rfl (cin_ok _ g a b s gb gd Db Dd K ck V cv T ct X cx xs N cn A c hb_g hR 2)) rfl rfl rfl ?_
 rintro v w2 ⟨rfl, he7⟩
 replace hb_g := hb_g.ext he7
 replace hR := hR.ext he7
 replace hE := hE.tr he7
 replace hb_g2 := hb_g2.ext he7
 have hz_he7 := he7.size
 refine va rfl rfl ?_
 refine q_nil (k_then (wc_seq (wc_regionL ?_)))
 refine vm rfl rfl ?_
 refine wl_val (ov_neq rfl rfl) rfl rfl rfl ?_
 refine q_nil (k_then ?_)
 refine wc_cond_d rfl (fun hc1 => ?_) (fun hc1 => ?_)
 ·refine wc_seq (wc_regionL ?_)
  refine wl_val (ov_build (cs := [(.int .i64 0), (.string (strB [])), (.slice none 0 0), (.slice none 0 0), (.slice none 0 0), (.int .u64 0), (.int .u64 0), (.string (strB [])), (.string (strB [])), (.string (strB []))]) ze39 pl39 rfl rfl) rfl rfl rfl ?_
  refine vm rfl rfl ?_
  refine wl_step0 (or_storeBlk (vs := [(.int .i64 0), (.string (strB [])), (.slice none 0 0), (.slice none 0 0), (.slice none 0 0), (.int .u64 0), (.int .u64 0), (.string (strB [])), (.string (strB [])), (.string (strB []))]) sz39 rfl rfl (by simp [Value.oneCell']) hb_g2 rfl) rfl rfl ?_
  rintro _ w3 ⟨hN3, hg3⟩
  have hz_hg3 := hg3.size
  replace hE := hE.gr hg3 (fun _ e => by cases e; omega)
  replace hb_g2 := hN3
  refine va rfl rfl ?_
  refine q_nil (k_then (q_ret (k_thenR ?_)))
  refine e_retL (rs := [.cell 2 39, .tmp 3]) (vs := [.agg #[(.int .i64 0), (.string (strB [])), (.slice none 0 0), (.slice none 0 0), (.slice none 0 0), (.int .u64 0), (.int .u64 0), (.string (strB [])), (.string (strB [])), (.string (strB []))], (.int .i64 (↑(cnIn s 2) : Int))]) rfl ⟨⟨_, _, [(.int .i64 0), (.string (strB [])), (.slice none 0 0), (.slice none 0 0), (.slice none 0 0), (.int .u64 0), (.int .u64 0), (.string (strB [])), (.string (strB [])), (.string (strB []))], rfl, ag39_10, hb_g2, rfl⟩, rfl, trivial⟩ ?_
  have hin : cnIn s 2 = 8 ∧ ¬ s.ph = 2 := by
   by_cases q : s.ph = 2
   ·exact absurd (by rw [show cnIn s 2 = 0 from if_pos q]; rfl) hc1
   ·exact ⟨if_neg q, q⟩
  rw [hin.1, show cnCmd s = cmd0 0 from if_neg hin.2]
  exact ⟨none, 0, none, 0, none, 0, rfl, (Rd.nil _ _ _ _ _ _ (Nat.zero_le _)), (Rd.nil _ _ _ _ _ _ (Nat.zero_le _)), (Rd.nil _ _ _ _ _ _ (Nat.zero_le _)), hE⟩
 ·refine q_skip (k_then (wc_seq (wc_regionL ?_)))
  refine vm rfl rfl ?_
  refine vn rfl rfl ?_
  refine wl_val (ov_field0 (off := 6) fo57_4 rfl) rfl rfl rfl ?_
  refine wl_val (ov_loadPart (vs := [(.int .i64 s.cmd.op), (.string (strB s.cmd.key)), (.slice K s.cmd.keys.length ck), (.slice V s.cmd.value.length cv), (.slice T s.cmd.tags.length ct), (.int .u64 (↑s.cmd.life : Int)), (.int .u64 (↑s.cmd.ver : Int)), (.string (strB s.cmd.tag)), (.string (strB s.cmd.pre)), (.string (strB s.cmd.child))]) ag39_10 rfl hb_g rfl) rfl rfl rfl ?_
  refine wl_step (or_alloc (cs := [(.int .i64 0), (.string (strB [])), (.slice none 0 0), (.slice none 0 0), (.slice none 0 0), (.int .u64 0), (.int .u64 0), (.string (strB [])), (.string (strB [])), (.string (strB []))]) ze39 rfl) rfl rfl rfl ?_
  rintro v w203 ⟨g5, rfl, hb_g5, he5, hl5, hu5⟩
  replace hR := hR.ext he5
  replace hE := hE.tr he5
  replace hb_g2 := hb_g2.ext he5
  have hz_he5 := he5.size
  refine wl_step0 (or_storeBlk (vs := [(.int .i64 s.cmd.op), (.string (strB s.cmd.key)), (.slice K s.cmd.keys.length ck), (.slice V s.cmd.value.length cv), (.slice T s.cmd.tags.length ct), (.int .u64 (↑s.cmd.life : Int)), (.int .u64 (↑s.cmd.ver : Int)), (.string (strB s.cmd.tag)), (.string (strB s.cmd.pre)), (.string (strB s.cmd.child))]) sz39 rfl rfl (by simp [Value.oneCell']) hb_g5 rfl) rfl rfl ?_
  rintro _ w204 ⟨hN204, hg204⟩
  have hz_hg204 := hg204.size
  replace hR := by first | exact hR.grg hg204 | exact hR.grf hg204 hW (by omega)
  replace hE := hE.gr hg204 (fun _ e => by cases e; omega)
  replace hb_g2 := hb_g2.gr hg204 (by intro e; cases e; omega)
  replace hb_g5 := hN204
  refine q_nil (k_then (wc_seq ?_))
  refine wc_draw mixed 10 [(16, eqv (.pointer (some ⟨g5, 2, none⟩))), (17, eqv (.slice K s.cmd.keys.length ck)), (18, (fun v wz => ∃ A c, v = .slice A s.cmd.keys.length c ∧ Own wz w204.heap.size 9 1 A s.cmd.keys.length c (s.cmd.keys.flatMap strc))), (19, eqv (.pointer (some ⟨g5, 4, none⟩))), (20, eqv (.slice T s.cmd.tags.length ct)), (21, (fun v wz => ∃ A c, v = .slice A s.cmd.tags.length c ∧ Own wz w204.heap.size 9 1 A s.cmd.tags.length c (s.cmd.tags.flatMap strc))), (22, eqv (.pointer (some ⟨g5, 3, none⟩))), (23, eqv (.slice V s.cmd.value.length cv)), (24, isOwnB w204.heap.size 5 s.cmd.value), (25, eqv (.pointer (some ⟨g5, 2, none⟩)))] [[], [0], [1], [], [3], [4], [], [6], [7], []] _ [] [] (fun _ _ h => h) trivial (by kernel_rfl) rfl ⟨⟨stb_eqv _, fun _ he => by cases he⟩, ⟨stb_eqv _, fun _ he => by cases he⟩, ⟨(fun v w w' ⟨A, c, hv, ho⟩ he => ⟨A, c, hv, Own.ext ho he⟩), fun _ he => by cases he⟩, ⟨stb_eqv _, fun _ he => by cases he⟩, ⟨stb_eqv _, fun _ he => by cases he⟩, ⟨(fun v w w' ⟨A, c, hv, ho⟩ he => ⟨A, c, hv, Own.ext ho he⟩), fun _ he => by cases he⟩, ⟨stb_eqv _, fun _ he => by cases he⟩, ⟨stb_eqv _, fun _ he => by cases he⟩, ⟨stb_isOwnB _ _ _, fun _ he => by cases he⟩, ⟨stb_eqv _, fun _ he => by cases he⟩, trivial⟩ ⟨?_, ?_, ?_, ?_, ?_, ?_, ?_, ?_, ?_, ?_, trivial⟩ ?_
  ·intro wd hxE
   have hz_hxE := hxE.size
   show OpG _ _ _ _ _ _
   exact og_plain rfl (ox_val (ov_field0 (off := 2) fo39_2 rfl))
  ·intro wd hxE
   replace hb_g5 := hb_g5.ext hxE
   have hz_hxE := hxE.size
   rintro _ rfl
   show OpG _ _ _ _ _ _
   exact og_plain rfl (ox_val (ov_loadAt oc35 rfl hb_g5 rfl))
  ·intro wd hxE
   replace hR := hR.ext hxE
   have hz_hxE := hxE.size
   rintro _ rfl
   show OpG _ _ _ _ _ _
   refine og_plain rfl (OpRun.mono (or_call0 cl46 rfl rfl (stclone_any _ _ _ K ck s.cmd.keys hR.hK (by omega))) ?_)
   rintro v w205 ⟨A18, c18, rfl, ho18, he18⟩
   have hz_he18 := he18.size
   exact ⟨⟨A18, c18, rfl, Own.mono ho18 (by omega)⟩, he18⟩
  ·intro wd hxE
   have hz_hxE := hxE.size
   show OpG _ _ _ _ _ _
   exact og_plain rfl (ox_val (ov_field0 (off := 4) fo39_4 rfl))
  ·intro wd hxE
   replace hb_g5 := hb_g5.ext hxE
   have hz_hxE := hxE.size
   rintro _ rfl
   show OpG _ _ _ _ _ _
   exact og_plain rfl (ox_val (ov_loadAt oc35 rfl hb_g5 rfl))
  ·intro wd hxE
   replace hR := hR.ext hxE
   have hz_hxE := hxE.size
   rintro _ rfl
   show OpG _ _ _ _ _ _
   refine og_plain rfl (OpRun.mono (or_call0 cl46 rfl rfl (stclone_any _ _ _ T ct s.cmd.tags hR.hT (by omega))) ?_)
   rintro v w205 ⟨A21, c21, rfl, ho21, he21⟩
   have hz_he21 := he21.size
   exact ⟨⟨A21, c21, rfl, Own.mono ho21 (by omega)⟩, he21⟩
  ·intro wd hxE
   have hz_hxE := hxE.size
   show OpG _ _ _ _ _ _
   exact og_plain rfl (ox_val (ov_field0 (off := 3) fo39_3 rfl))
  ·intro wd hxE
   replace hb_g5 := hb_g5.ext hxE
   have hz_hxE := hxE.size
   rintro _ rfl
   show OpG _ _ _ _ _ _
   exact og_plain rfl (ox_val (ov_loadAt oc32 rfl hb_g5 rfl))
  ·intro wd hxE
   replace hR := hR.ext hxE
   have hz_hxE := hxE.size
   rintro _ rfl
   show OpG _ _ _ _ _ _
   refine og_plain rfl (OpRun.mono (or_call0 cl47 rfl rfl (slclone_any _ _ _ V cv s.cmd.value hR.hV (by omega))) ?_)
   rintro v w205 ⟨A24, c24, rfl, ho24, he24⟩
   have hz_he24 := he24.size
   exact ⟨⟨A24, c24, rfl, Own.mono ho24 (by omega)⟩, he24⟩
  ·intro wd hxE
   have hz_hxE := hxE.size
   show OpG _ _ _ _ _ _
   exact og_plain rfl (ox_val (ov_field0 (off := 2) fo39_2 rfl))
  ·intro wf5 hf5
   replace hE := hE.tr hf5
   replace hb_g2 := hb_g2.ext hf5
   replace hb_g5 := hb_g5.ext hf5
   have hz_hf5 := hf5.size
   rintro _ rfl
   rintro _ rfl
   rintro _ ⟨A18, c18, rfl, ho18⟩
   rintro _ rfl
   rintro _ rfl
   rintro _ ⟨A21, c21, rfl, ho21⟩
   rintro _ rfl
   rintro _ rfl
   rintro _ ⟨A24, c24, rfl, ho24⟩
   rintro _ rfl
   have hq_ho18 := fun g e => Own.lt ho18 (g := g) e
   have hq_ho21 := fun g e => Own.lt ho21 (g := g) e
   have hq_ho24 := fun g e => Own.lt ho24 (g := g) e
   show WL _ _ _ [_, _, _, _, _] _ _ _
   refine wl_step0 (or_storeAt (cs' := [(.int .i64 s.cmd.op), (.string (strB s.cmd.key)), (.slice A18 s.cmd.keys.length c18), (.slice V s.cmd.value.length cv), (.slice T s.cmd.tags.length ct), (.int .u64 (↑s.cmd.life : Int)), (.int .u64 (↑s.cmd.ver : Int)), (.string (strB s.cmd.tag)), (.string (strB s.cmd.pre)), (.string (strB s.cmd.child))]) sz35 rfl rfl rfl hb_g5 rfl rfl) rfl rfl ?_
   rintro _ w205 ⟨hN205, hg205⟩
   have hz_hg205 := hg205.size
   replace hE := hE.gr hg205 (fun _ e => by cases e; omega)
   replace hb_g2 := hb_g2.gr hg205 (by intro e; cases e; omega)
   replace ho18 := Own.gr ho18 hg205 (by first | exact .inl rfl | (right; intro e; first | (have := hq_ho18 _ e; omega) | (have := Own.lt ho18 e; omega) | exact own_blk_ne ho18 hb_g5 (by decide) e))
   replace ho21 := Own.gr ho21 hg205 (by first | exact .inl rfl | (right; intro e; first | (have := hq_ho21 _ e; omega) | (have := Own.lt ho21 e; omega) | exact own_blk_ne ho21 hb_g5 (by decide) e))
   replace ho24 := Own.gr ho24 hg205 (by first | exact .inl rfl | (right; intro e; first | (have := hq_ho24 _ e; omega) | (have := Own.lt ho24 e; omega) | exact own_blk_ne ho24 hb_g5 (by decide) e))
   replace hb_g5 := hN205
   refine wl_val (ov_field0 (off := 4) fo39_4 rfl) rfl rfl rfl ?_
   refine wl_step0 (or_storeAt (cs' := [(.int .i64 s.cmd.op), (.string (strB s.cmd.key)), (.slice A18 s.cmd.keys.length c18), (.slice V s.cmd.value.length cv), (.slice A21 s.cmd.tags.length c21), (.int .u64 (↑s.cmd.life : Int)), (.int .u64 (↑s.cmd.ver : Int)), (.string (strB s.cmd.tag)), (.string (strB s.cmd.pre)), (.string (strB s.cmd.child))]) sz35 rfl rfl rfl hb_g5 rfl rfl) rfl rfl ?_
   rintro _ w206 ⟨hN206, hg206⟩
   have hz_hg206 := hg206.size
   replace hE := hE.gr hg206 (fun _ e => by cases e; omega)
   replace hb_g2 := hb_g2.gr hg206 (by intro e; cases e; omega)
   replace ho18 := Own.gr ho18 hg206 (by first | exact .inl rfl | (right; intro e; first | (have := hq_ho18 _ e; omega) | (have := Own.lt ho18 e; omega) | exact own_blk_ne ho18 hb_g5 (by decide) e))
   replace ho21 := Own.gr ho21 hg206 (by first | exact .inl rfl | (right; intro e; first | (have := hq_ho21 _ e; omega) | (have := Own.lt ho21 e; omega) | exact own_blk_ne ho21 hb_g5 (by decide) e))
   replace ho24 := Own.gr ho24 hg206 (by first | exact .inl rfl | (right; intro e; first | (have := hq_ho24 _ e; omega) | (have := Own.lt ho24 e; omega) | exact own_blk_ne ho24 hb_g5 (by decide) e))
   replace hb_g5 := hN206
   refine wl_val (ov_field0 (off := 3) fo39_3 rfl) rfl rfl rfl ?_
   refine wl_step0 (or_storeAt (cs' := [(.int .i64 s.cmd.op), (.string (strB s.cmd.key)), (.slice A18 s.cmd.keys.length c18), (.slice A24 s.cmd.value.length c24), (.slice A21 s.cmd.tags.length c21), (.int .u64 (↑s.cmd.life : Int)), (.int .u64 (↑s.cmd.ver : Int)), (.string (strB s.cmd.tag)), (.string (strB s.cmd.pre)), (.string (strB s.cmd.child))]) sz32 rfl rfl rfl hb_g5 rfl rfl) rfl rfl ?_
   rintro _ w207 ⟨hN207, hg207⟩
   have hz_hg207 := hg207.size
   replace hE := hE.gr hg207 (fun _ e => by cases e; omega)
   replace hb_g2 := hb_g2.gr hg207 (by intro e; cases e; omega)
   replace ho18 := Own.gr ho18 hg207 (by first | exact .inl rfl | (right; intro e; first | (have := hq_ho18 _ e; omega) | (have := Own.lt ho18 e; omega) | exact own_blk_ne ho18 hb_g5 (by decide) e))
   replace ho21 := Own.gr ho21 hg207 (by first | exact .inl rfl | (right; intro e; first | (have := hq_ho21 _ e; omega) | (have := Own.lt ho21 e; omega) | exact own_blk_ne ho21 hb_g5 (by decide) e))
   replace ho24 := Own.gr ho24 hg207 (by first | exact .inl rfl | (right; intro e; first | (have := hq_ho24 _ e; omega) | (have := Own.lt ho24 e; omega) | exact own_blk_ne ho24 hb_g5 (by decide) e))
   replace hb_g5 := hN207
   refine q_nil (k_then (wc_seq (wc_regionL ?_)))
   refine wl_val (ov_loadBlk (cs := [(.int .i64 s.cmd.op), (.string (strB s.cmd.key)), (.slice A18 s.cmd.keys.length c18), (.slice A24 s.cmd.value.length c24), (.slice A21 s.cmd.tags.length c21), (.int .u64 (↑s.cmd.life : Int)), (.int .u64 (↑s.cmd.ver : Int)), (.string (strB s.cmd.tag)), (.string (strB s.cmd.pre)), (.string (strB s.cmd.child))]) ag39_10 rfl hb_g5) rfl rfl rfl ?_
   refine wl_step0 (or_storeBlk (vs := [(.int .i64 s.cmd.op), (.string (strB s.cmd.key)), (.slice A18 s.cmd.keys.length c18), (.slice A24 s.cmd.value.length c24), (.slice A21 s.cmd.tags.length c21), (.int .u64 (↑s.cmd.life : Int)), (.int .u64 (↑s.cmd.ver : Int)), (.string (strB s.cmd.tag)), (.string (strB s.cmd.pre)), (.string (strB s.cmd.child))]) sz39 rfl rfl (by simp [Value.oneCell']) hb_g2 rfl) rfl rfl ?_
   rintro _ w208 ⟨hN208, hg208⟩
   have hz_hg208 := hg208.size
   replace hE := hE.gr hg208 (fun _ e => by cases e; omega)
   replace ho18 := Own.gr ho18 hg208 (by first | exact .inl rfl | (right; intro e; first | (have := hq_ho18 _ e; omega) | (have := Own.lt ho18 e; omega) | exact own_blk_ne ho18 hb_g2 (by decide) e))
   replace ho21 := Own.gr ho21 hg208 (by first | exact .inl rfl | (right; intro e; first | (have := hq_ho21 _ e; omega) | (have := Own.lt ho21 e; omega) | exact own_blk_ne ho21 hb_g2 (by decide) e))
   replace ho24 := Own.gr ho24 hg208 (by first | exact .inl rfl | (right; intro e; first | (have := hq_ho24 _ e; omega) | (have := Own.lt ho24 e; omega) | exact own_blk_ne ho24 hb_g2 (by decide) e))
   replace hb_g2 := hN208
   refine va rfl rfl ?_
   refine q_nil (k_then (q_ret ?_))
   refine e_retL (rs := [.cell 2 39, .tmp 3]) (vs := [.agg #[(.int .i64 s.cmd.op), (.string (strB s.cmd.key)), (.slice A18 s.cmd.keys.length c18), (.slice A24 s.cmd.value.length c24), (.slice A21 s.cmd.tags.length c21), (.int .u64 (↑s.cmd.life : Int)), (.int .u64 (↑s.cmd.ver : Int)), (.string (strB s.cmd.tag)), (.string (strB s.cmd.pre)), (.string (strB s.cmd.child))], (.int .i64 0)]) rfl ⟨⟨_, _, [(.int .i64 s.cmd.op), (.string (strB s.cmd.key)), (.slice A18 s.cmd.keys.length c18), (.slice A24 s.cmd.value.length c24), (.slice A21 s.cmd.tags.length c21), (.int .u64 (↑s.cmd.life : Int)), (.int .u64 (↑s.cmd.ver : Int)), (.string (strB s.cmd.tag)), (.string (strB s.cmd.pre)), (.string (strB s.cmd.child))], rfl, ag39_10, hb_g2, rfl⟩, rfl, trivial⟩ ?_
   have hin : cnIn s 2 = 0 ∧ s.ph = 2 := by
    by_cases q : s.ph = 2
    ·exact ⟨if_pos q, q⟩
    ·exact absurd (show (((cnIn s 2 : Nat) : Int) ≠ 0) by rw [show cnIn s 2 = 8 from if_neg q]; decide) hc1
   rw [hin.1, show cnCmd s = s.cmd from if_pos hin.2]
   exact ⟨A18, c18, A24, c24, A21, c21, rfl, ((Own.rd ho18).mono (by omega) (Nat.le_refl _)), ((OwnB.rd ho24).mono (by omega) (Nat.le_refl _)), ((Own.rd ho21).mono (by omega) (Nat.le_refl _)), hE⟩
theorem crsp_ok (w : World) (g a b : Nat) (s : Cn) (gb gd : Nat) (Db Dd : Option Nat) (K : Option Addr) (ck : Nat) (V : Option Addr) (cv : Nat) (T : Option Addr) (ct : Nat) (X : Option Addr) (cx : Nat) (xs : List IT) (N : Option Addr) (cn : Nat) (A : Option Addr) (c : Nat) (hb_g : Blk w g 57 (cnc s (⟨gb, gd, Db, Dd, K, ck, V, cv, T, ct, X, cx, xs, N, cn, A, c⟩ : CnP))) (hR : CnR w g a b s (⟨gb, gd, Db, Dd, K, ck, V, cv, T, ct, X, cx, xs, N, cn, A, c⟩ : CnP)) :
  Fn Tryz.prog 19 #[(.pointer (some ⟨g, 0, none⟩))] w (fun v w' => ∃ X' cx' N' cn' xs', v = .tuple #[.agg (rspc (cnRsp s) X' cx' N' cn').toArray, .int .i64 (cnIn s 3 : Int)] ∧ vals xs' = (cnRsp s).items ∧ RdI w' w.heap.size w'.heap.size X' cx' xs' ∧ RdN w' w.heap.size w'.heap.size N' cn' (cnRsp s).nums ∧ Ext w w')  := by
 replace hb_g : Blk w g 57 [(.pointer (some ⟨gb, 0, none⟩)), (.int .i64 (↑s.ci : Int)), (.int .i64 (↑s.co : Int)), (.int .i64 (↑s.cp : Int)), (.pointer (some ⟨gd, 0, none⟩)), (.int .i64 (↑s.ph : Int)), (.int .i64 s.cmd.op), (.string (strB s.cmd.key)), (.slice K s.cmd.keys.length ck), (.slice V s.cmd.value.length cv), (.slice T s.cmd.tags.length ct), (.int .u64 (↑s.cmd.life : Int)), (.int .u64 (↑s.cmd.ver : Int)), (.string (strB s.cmd.tag)), (.string (strB s.cmd.pre)), (.string (strB s.cmd.child)), (.int .i64 s.ans.op), (.int .i64 s.ans.err), (.slice X s.ans.items.length cx), (.int .u64 (↑s.ans.ver : Int)), (.int .i64 s.ans.count), (.slice N s.ans.nums.length cn), (.slice A s.bs.length c)] := hb_g
 have hW := hR.bnd
 have hgl := hb_g.lt
 have hok := hR.ok
 obtain ⟨kp1, kp2, ki1, ki2, ko1, khl, kph1, kph4, ksz, kbl, kan, kcb⟩ := id hok
 have hne1 := hR.ne1
 have hne2 := hR.ne2
 have hne3 := hR.ne3
 have hE := ext_refl w
 refine fn_enter (args := [(.pointer (some ⟨g, 0, none⟩))]) Tryz.func19 rfl rfl rfl ?_
 show WC _ _ _ _ [(0, (.pointer (some ⟨g, 0, none⟩)))] _
 refine wc_seq (wc_regionL ?_)
 refine wl_step (or_alloc (cs := [(.int .i64 0), (.int .i64 0), (.slice none 0 0), (.int .u64 0), (.int .i64 0), (.slice none 0 0)]) ze43 rfl) rfl rfl rfl ?_
 rintro v w1 ⟨g2, rfl, hb_g2, he2, hl2, hu2⟩
 replace hb_g := hb_g.ext he2
 replace hR := hR.ext he2
 replace hE := hE.tr he2
 have hz_he2 := he2.size
 refine va rfl rfl ?_
 refine q_nil (k_then (wc_seq (wc_seq (wc_regionL ?_))))
 refine vm rfl rfl ?_
 refine wl_step (or_call0 cl45 rfl rfl (cin_ok _ g a b s gb gd Db Dd K ck V cv T ct X cx xs N cn A c hb_g hR 3)) rfl rfl rfl ?_
 rintro v w2 ⟨rfl, he6⟩
 replace hb_g := hb_g.ext he6
 replace hR := hR.ext he6
 replace hE := hE.tr he6
 replace hb_g2 := hb_g2.ext he6
 have hz_he6 := he6.size
 refine va rfl rfl ?_
 refine q_nil (k_then (wc_seq (wc_regionL ?_)))
 refine vm rfl rfl ?_
 refine wl_val (ov_neq rfl rfl) rfl rfl rfl ?_
 refine q_nil (k_then ?_)
 refine wc_cond_d rfl (fun hc1 => ?_) (fun hc1 => ?_)
 ·refine wc_seq (wc_regionL ?_)
  refine wl_val (ov_build (cs := [(.int .i64 0), (.int .i64 0), (.slice none 0 0), (.int .u64 0), (.int .i64 0), (.slice none 0 0)]) ze43 pl43 rfl rfl) rfl rfl rfl ?_
  refine vm rfl rfl ?_
  refine wl_step0 (or_storeBlk (vs := [(.int .i64 0), (.int .i64 0), (.slice none 0 0), (.int .u64 0), (.int .i64 0), (.slice none 0 0)]) sz43 rfl rfl (by simp [Value.oneCell']) hb_g2 rfl) rfl rfl ?_
  rintro _ w3 ⟨hN3, hg3⟩
  have hz_hg3 := hg3.size
  replace hE := hE.gr hg3 (fun _ e => by cases e; omega)
  replace hb_g2 := hN3
  refine va rfl rfl ?_
  refine q_nil (k_then (q_ret (k_thenR ?_)))
  refine e_retL (rs := [.cell 2 43, .tmp 3]) (vs := [.agg #[(.int .i64 0), (.int .i64 0), (.slice none 0 0), (.int .u64 0), (.int .i64 0), (.slice none 0 0)], (.int .i64 (↑(cnIn s 3) : Int))]) rfl ⟨⟨_, _, [(.int .i64 0), (.int .i64 0), (.slice none 0 0), (.int .u64 0), (.int .i64 0), (.slice none 0 0)], rfl, ag43_6, hb_g2, rfl⟩, rfl, trivial⟩ ?_
  have hin : cnIn s 3 = 8 ∧ ¬ s.ph = 3 := by
   by_cases q : s.ph = 3
   ·exact absurd (by rw [show cnIn s 3 = 0 from if_pos q]; rfl) hc1
   ·exact ⟨if_neg q, q⟩
  rw [hin.1, show cnRsp s = rspO 0 0 from if_neg hin.2]
  exact ⟨none, 0, none, 0, [], rfl, rfl, RdI.nil _ _ _, (Rd.nil _ _ _ _ _ _ (Nat.zero_le _)), hE⟩
 ·refine q_skip (k_then (wc_seq (wc_regionL ?_)))
  refine vm rfl rfl ?_
  refine vn rfl rfl ?_
  refine wl_val (ov_field0 (off := 16) fo57_5 rfl) rfl rfl rfl ?_
  refine wl_val (ov_loadPart (vs := [(.int .i64 s.ans.op), (.int .i64 s.ans.err), (.slice X s.ans.items.length cx), (.int .u64 (↑s.ans.ver : Int)), (.int .i64 s.ans.count), (.slice N s.ans.nums.length cn)]) ag43_6 rfl hb_g rfl) rfl rfl rfl ?_
  refine wl_step (or_call0 cl48 rfl rfl (cown_any _ s.ans xs hR.hv _ _ X cx N cn hR.hx hR.hn ksz)) rfl rfl rfl ?_
  rintro v w203 ⟨ys15, X15, cx15, N15, cn15, rfl, hc15, he15⟩
  replace hE := hE.tr he15
  replace hb_g2 := hb_g2.ext he15
  have hz_he15 := he15.size
  have hx15 := hc15.hx
  have hn15 := Own.rd hc15.n
  refine wl_step0 (or_storeBlk (vs := [(.int .i64 s.ans.op), (.int .i64 s.ans.err), (.slice X15 s.ans.items.length cx15), (.int .u64 (↑s.ans.ver : Int)), (.int .i64 s.ans.count), (.slice N15 s.ans.nums.length cn15)]) sz43 rfl rfl (by simp [Value.oneCell']) hb_g2 rfl) rfl rfl ?_
  rintro _ w204 ⟨hN204, hg204⟩
  have hz_hg204 := hg204.size
  replace hE := hE.gr hg204 (fun _ e => by cases e; omega)
  replace hx15 := RdI.gr hx15 hg204 (fun _ e => by cases e; omega)
  replace hn15 := hn15.gr hg204 (fun _ e => by cases e; omega)
  replace hb_g2 := hN204
  refine va rfl rfl ?_
  refine q_nil (k_then (q_ret ?_))
  refine e_retL (rs := [.cell 2 43, .tmp 3]) (vs := [.agg #[(.int .i64 s.ans.op), (.int .i64 s.ans.err), (.slice X15 s.ans.items.length cx15), (.int .u64 (↑s.ans.ver : Int)), (.int .i64 s.ans.count), (.slice N15 s.ans.nums.length cn15)], (.int .i64 0)]) rfl ⟨⟨_, _, [(.int .i64 s.ans.op), (.int .i64 s.ans.err), (.slice X15 s.ans.items.length cx15), (.int .u64 (↑s.ans.ver : Int)), (.int .i64 s.ans.count), (.slice N15 s.ans.nums.length cn15)], rfl, ag43_6, hb_g2, rfl⟩, rfl, trivial⟩ ?_
  have hin : cnIn s 3 = 0 ∧ s.ph = 3 := by
   by_cases q : s.ph = 3
   ·exact ⟨if_pos q, q⟩
   ·exact absurd (show (((cnIn s 3 : Nat) : Int) ≠ 0) by rw [show cnIn s 3 = 8 from if_neg q]; decide) hc1
  rw [hin.1, show cnRsp s = s.ans from if_pos hin.2]
  exact ⟨X15, cx15, N15, cn15, ys15, rfl, hc15.v, (RdI.top hx15).wide (by omega) (Nat.le_refl _), (Rd.top hn15).mono (by omega) (Nat.le_refl _), hE⟩
theorem cansb_ok (w : World) (g a b : Nat) (s : Cn) (gb gd : Nat) (Db Dd : Option Nat) (K : Option Addr) (ck : Nat) (V : Option Addr) (cv : Nat) (T : Option Addr) (ct : Nat) (X : Option Addr) (cx : Nat) (xs : List IT) (N : Option Addr) (cn : Nat) (A : Option Addr) (c : Nat) (hb_g : Blk w g 57 (cnc s (⟨gb, gd, Db, Dd, K, ck, V, cv, T, ct, X, cx, xs, N, cn, A, c⟩ : CnP))) (hR : CnR w g a b s (⟨gb, gd, Db, Dd, K, ck, V, cv, T, ct, X, cx, xs, N, cn, A, c⟩ : CnP)) (r : Rsp) (xs9 : List IT) (hv9 : vals xs9 = r.items) (lo9 hi9 : Nat) (X9 : Option Addr) (cx9 : Nat) (N9 : Option Addr) (cn9 : Nat) (hx9 : RdI w lo9 hi9 X9 cx9 xs9) (hn9 : RdN w lo9 hi9 N9 cn9 r.nums) (hrk : RspOk r) (hrz : rsz r ≤ 4398046511104) (hv8 : ¬ (wrR r).2 = 0) :
  Fn Tryz.prog 24 #[(.pointer (some ⟨g, 0, none⟩)), (.agg #[(.int .i64 r.op), (.int .i64 r.err), (.slice X9 r.items.length cx9), (.int .u64 (↑r.ver : Int)), (.int .i64 r.count), (.slice N9 r.nums.length cn9)])] w (fun v w' => v = .int .i64 ((cnAns s r).2 : Int) ∧ CnTo w w' g (cnS g (⟨gb, gd, Db, Dd, K, ck, V, cv, T, ct, X, cx, xs, N, cn, A, c⟩ : CnP)) a b (cnAns s r).1)  := by
 replace hb_g : Blk w g 57 [(.pointer (some ⟨gb, 0, none⟩)), (.int .i64 (↑s.ci : Int)), (.int .i64 (↑s.co : Int)), (.int .i64 (↑s.cp : Int)), (.pointer (some ⟨gd, 0, none⟩)), (.int .i64 (↑s.ph : Int)), (.int .i64 s.cmd.op), (.string (strB s.cmd.key)), (.slice K s.cmd.keys.length ck), (.slice V s.cmd.value.length cv), (.slice T s.cmd.tags.length ct), (.int .u64 (↑s.cmd.life : Int)), (.int .u64 (↑s.cmd.ver : Int)), (.string (strB s.cmd.tag)), (.string (strB s.cmd.pre)), (.string (strB s.cmd.child)), (.int .i64 s.ans.op), (.int .i64 s.ans.err), (.slice X s.ans.items.length cx), (.int .u64 (↑s.ans.ver : Int)), (.int .i64 s.ans.count), (.slice N s.ans.nums.length cn), (.slice A s.bs.length c)] := hb_g
 have hW := hR.bnd
 have hgl := hb_g.lt
 have hok := hR.ok
 obtain ⟨kp1, kp2, ki1, ki2, ko1, khl, kph1, kph4, ksz, kbl, kan, kcb⟩ := id hok
 have hne1 := hR.ne1
 have hne2 := hR.ne2
 have hne3 := hR.ne3
 have hKS := Kp.refl (cnS g (⟨gb, gd, Db, Dd, K, ck, V, cv, T, ct, X, cx, xs, N, cn, A, c⟩ : CnP)) w
 refine fn_enter (args := [(.pointer (some ⟨g, 0, none⟩)), (.agg #[(.int .i64 r.op), (.int .i64 r.err), (.slice X9 r.items.length cx9), (.int .u64 (↑r.ver : Int)), (.int .i64 r.count), (.slice N9 r.nums.length cn9)])]) Tryz.func24 rfl rfl rfl ?_
 show WC _ _ _ _ [(0, (.pointer (some ⟨g, 0, none⟩))), (1, (.agg #[(.int .i64 r.op), (.int .i64 r.err), (.slice X9 r.items.length cx9), (.int .u64 (↑r.ver : Int)), (.int .i64 r.count), (.slice N9 r.nums.length cn9)]))] _
 refine wc_seq (wc_regionL ?_)
 refine wl_step (or_box (cs := [(.int .i64 r.op), (.int .i64 r.err), (.slice X9 r.items.length cx9), (.int .u64 (↑r.ver : Int)), (.int .i64 r.count), (.slice N9 r.nums.length cn9)]) rfl rfl) rfl rfl rfl ?_
 rintro v w1 ⟨g3, rfl, hb_g3, he3, hl3, hu3⟩
 replace hb_g := hb_g.ext he3
 replace hR := hR.ext he3
 replace hKS := Kp.te hKS he3
 replace hx9 := RdI.ext hx9 he3
 replace hn9 := hn9.ext he3
 have hz_he3 := he3.size
 refine va rfl rfl ?_
 refine q_nil (k_then (wc_seq (wc_seq (wc_regionL ?_))))
 refine vm rfl rfl ?_
 refine wl_step (or_call0 cl45 rfl rfl (cin_ok _ g a b s gb gd Db Dd K ck V cv T ct X cx xs N cn A c hb_g hR 2)) rfl rfl rfl ?_
 rintro v w2 ⟨rfl, he7⟩
 replace hb_g := hb_g.ext he7
 replace hR := hR.ext he7
 replace hKS := Kp.te hKS he7
 replace hx9 := RdI.ext hx9 he7
 replace hn9 := hn9.ext he7
 replace hb_g3 := hb_g3.ext he7
 have hz_he7 := he7.size
 refine va rfl rfl ?_
 refine q_nil (k_then (wc_seq (wc_regionL ?_)))
 refine vm rfl rfl ?_
 refine wl_val (ov_neq rfl rfl) rfl rfl rfl ?_
 refine q_nil (k_then ?_)
 refine wc_cond_d rfl (fun hc1 => ?_) (fun hc1 => ?_)
 ·refine wc_seq (wc_regionL ?_)
  refine vm rfl rfl ?_
  refine va rfl rfl ?_
  refine q_nil (k_then (q_ret (k_thenR ?_)))
  refine e_ret rfl rfl ?_
  have hin : cnIn s 2 = 8 ∧ ¬ s.ph = 2 := by
   by_cases q : s.ph = 2
   ·exact absurd (by rw [show cnIn s 2 = 0 from if_pos q]; rfl) hc1
   ·exact ⟨if_neg q, q⟩
  have e : cnAns s r = (s, 8) := if_pos hin.2
  rw [e, hin.1]
  exact ⟨rfl, CnTo.of (⟨gb, gd, Db, Dd, K, ck, V, cv, T, ct, X, cx, xs, N, cn, A, c⟩ : CnP) (⟨gb, gd, Db, Dd, K, ck, V, cv, T, ct, X, cx, xs, N, cn, A, c⟩ : CnP) hb_g hR hKS (fun x h => .inl h) (.inl ⟨rfl, rfl⟩)⟩
 ·refine q_skip (k_then (wc_seq (wc_seq ?_)))
  refine wc_draw mixed 11 [(11, eqv (.agg #[(.int .i64 r.op), (.int .i64 r.err), (.slice X9 r.items.length cx9), (.int .u64 (↑r.ver : Int)), (.int .i64 r.count), (.slice N9 r.nums.length cn9)])), (12, eqv (.bool false)), (13, eqv (.bool true)), (14, eqv (.bool true)), (15, eqv undef), (16, eqv undef), (17, eqv undef), (18, eqv undef), (19, eqv undef), (20, eqv undef), (21, eqv undef)] [[], [0], [1], [2], [3], [3, 4], [3], [3, 6], [3, 7], [3, 8], [3, 9]] _ [] [] (fun _ _ h => h) trivial (by kernel_rfl) rfl ⟨⟨stb_eqv _, fun _ he => by cases he⟩, ⟨stb_eqv _, fun _ he => by cases he⟩, ⟨stb_eqv _, fun _ he => by cases he⟩, ⟨stb_eqv _, fun _ he => by cases he⟩, ⟨stb_eqv _, fun _ he => by cases he⟩, ⟨stb_eqv _, fun _ he => by cases he⟩, ⟨stb_eqv _, fun _ he => by cases he⟩, ⟨stb_eqv _, fun _ he => by cases he⟩, ⟨stb_eqv _, fun _ he => by cases he⟩, ⟨stb_eqv _, fun _ he => by cases he⟩, ⟨stb_eqv _, fun _ he => by cases he⟩, trivial⟩ ⟨?_, ?_, ?_, ?_, ?_, ?_, ?_, ?_, ?_, ?_, ?_, trivial⟩ ?_
  ·intro wd hxE
   replace hb_g3 := hb_g3.ext hxE
   have hz_hxE := hxE.size
   show OpG _ _ _ _ _ _
   exact og_plain rfl (ox_val (ov_loadBlk (cs := [(.int .i64 r.op), (.int .i64 r.err), (.slice X9 r.items.length cx9), (.int .u64 (↑r.ver : Int)), (.int .i64 r.count), (.slice N9 r.nums.length cn9)]) ag43_6 rfl hb_g3))
  ·intro wd hxE
   replace hx9 := RdI.ext hx9 hxE
   replace hn9 := hn9.ext hxE
   have hz_hxE := hxE.size
   rintro _ rfl
   show OpG _ _ _ _ _ _
   refine og_plain rfl (OpRun.mono (or_call0 cl53 rfl rfl (vd8_any _ r xs9 hv9 _ _ X9 cx9 N9 cn9 hx9 hn9 hrk hrz)) ?_)
   rintro v w203 ⟨rfl, he12⟩
   have hz_he12 := he12.size
   exact ⟨bf (hv8), he12⟩
  ·intro wd hxE
   have hz_hxE := hxE.size
   rintro _ rfl
   show OpG _ _ _ _ _ _
   exact og_plain rfl (ox_val (ov_not (b := false) rfl))
  ·intro wd hxE
   have hz_hxE := hxE.size
   rintro _ rfl
   show OpG _ _ _ _ _ _
   exact og_plain rfl (ox_val (ov_move rfl))
  ·intro wd hxE
   have hz_hxE := hxE.size
   rintro _ rfl
   show OpG _ _ _ _ _ _
   exact og_off rfl rfl rfl rfl ⟨rfl, ext_refl _⟩
  ·intro wd hxE
   have hz_hxE := hxE.size
   rintro _ rfl
   rintro _ rfl
   show OpG _ _ _ _ _ _
   exact og_off rfl rfl rfl rfl ⟨rfl, ext_refl _⟩
  ·intro wd hxE
   have hz_hxE := hxE.size
   rintro _ rfl
   show OpG _ _ _ _ _ _
   exact og_off rfl rfl rfl rfl ⟨rfl, ext_refl _⟩
  ·intro wd hxE
   have hz_hxE := hxE.size
   rintro _ rfl
   rintro _ rfl
   show OpG _ _ _ _ _ _
   exact og_off rfl rfl rfl rfl ⟨rfl, ext_refl _⟩
  ·intro wd hxE
   have hz_hxE := hxE.size
   rintro _ rfl
   rintro _ rfl
   show OpG _ _ _ _ _ _
   exact og_off rfl rfl rfl rfl ⟨rfl, ext_refl _⟩
  ·intro wd hxE
   have hz_hxE := hxE.size
   rintro _ rfl
   rintro _ rfl
   show OpG _ _ _ _ _ _
   exact og_off rfl rfl rfl rfl ⟨rfl, ext_refl _⟩
  ·intro wd hxE
   have hz_hxE := hxE.size
   rintro _ rfl
   rintro _ rfl
   show OpG _ _ _ _ _ _
   exact og_off rfl rfl rfl rfl ⟨rfl, ext_refl _⟩
  ·intro wf4 hf4
   replace hb_g := hb_g.ext hf4
   replace hR := hR.ext hf4
   replace hKS := Kp.te hKS hf4
   have hz_hf4 := hf4.size
   rintro _ rfl
   rintro _ rfl
   rintro _ rfl
   rintro _ rfl
   rintro _ rfl
   rintro _ rfl
   rintro _ rfl
   rintro _ rfl
   rintro _ rfl
   rintro _ rfl
   rintro _ rfl
   show WL _ _ _ [_, _] _ _ _
   refine wl_gskip rfl rfl rfl rfl rfl rfl ?_
   refine wl_val (ov_pick_t rfl rfl) rfl rfl rfl ?_
   refine q_nil (k_then ?_)
   refine wc_cond_t rfl ?_
   refine wc_seq (wc_regionL ?_)
   refine va rfl rfl ?_
   refine q_nil (k_then (q_ret (k_thenR ?_)))
   refine e_ret rfl rfl ?_
   have hin : cnIn s 2 = 0 ∧ s.ph = 2 := by
    by_cases q : s.ph = 2
    ·exact ⟨if_pos q, q⟩
    ·exact absurd (show (((cnIn s 2 : Nat) : Int) ≠ 0) by rw [show cnIn s 2 = 8 from if_neg q]; decide) hc1
   have e : cnAns s r = (s, 2) := (if_neg (fun q => q hin.2)).trans (if_pos (.inl hv8))
   rw [e]
   exact ⟨rfl, CnTo.of (⟨gb, gd, Db, Dd, K, ck, V, cv, T, ct, X, cx, xs, N, cn, A, c⟩ : CnP) (⟨gb, gd, Db, Dd, K, ck, V, cv, T, ct, X, cx, xs, N, cn, A, c⟩ : CnP) hb_g hR hKS (fun x h => .inl h) (.inl ⟨rfl, rfl⟩)⟩
theorem cansg_ok (w : World) (g a b : Nat) (s : Cn) (gb gd : Nat) (Db Dd : Option Nat) (K : Option Addr) (ck : Nat) (V : Option Addr) (cv : Nat) (T : Option Addr) (ct : Nat) (X : Option Addr) (cx : Nat) (xs : List IT) (N : Option Addr) (cn : Nat) (A : Option Addr) (c : Nat) (hb_g : Blk w g 57 (cnc s (⟨gb, gd, Db, Dd, K, ck, V, cv, T, ct, X, cx, xs, N, cn, A, c⟩ : CnP))) (hR : CnR w g a b s (⟨gb, gd, Db, Dd, K, ck, V, cv, T, ct, X, cx, xs, N, cn, A, c⟩ : CnP)) (r : Rsp) (xs9 : List IT) (hv9 : vals xs9 = r.items) (lo9 hi9 : Nat) (X9 : Option Addr) (cx9 : Nat) (N9 : Option Addr) (cn9 : Nat) (hx9 : RdI w lo9 hi9 X9 cx9 xs9) (hn9 : RdN w lo9 hi9 N9 cn9 r.nums) (hrk : RspOk r) (hrz : rsz r ≤ 4398046511104) (hv8 : (wrR r).2 = 0) :
  Fn Tryz.prog 24 #[(.pointer (some ⟨g, 0, none⟩)), (.agg #[(.int .i64 r.op), (.int .i64 r.err), (.slice X9 r.items.length cx9), (.int .u64 (↑r.ver : Int)), (.int .i64 r.count), (.slice N9 r.nums.length cn9)])] w (fun v w' => v = .int .i64 ((cnAns s r).2 : Int) ∧ CnTo w w' g (cnS g (⟨gb, gd, Db, Dd, K, ck, V, cv, T, ct, X, cx, xs, N, cn, A, c⟩ : CnP)) a b (cnAns s r).1)  := by
 replace hb_g : Blk w g 57 [(.pointer (some ⟨gb, 0, none⟩)), (.int .i64 (↑s.ci : Int)), (.int .i64 (↑s.co : Int)), (.int .i64 (↑s.cp : Int)), (.pointer (some ⟨gd, 0, none⟩)), (.int .i64 (↑s.ph : Int)), (.int .i64 s.cmd.op), (.string (strB s.cmd.key)), (.slice K s.cmd.keys.length ck), (.slice V s.cmd.value.length cv), (.slice T s.cmd.tags.length ct), (.int .u64 (↑s.cmd.life : Int)), (.int .u64 (↑s.cmd.ver : Int)), (.string (strB s.cmd.tag)), (.string (strB s.cmd.pre)), (.string (strB s.cmd.child)), (.int .i64 s.ans.op), (.int .i64 s.ans.err), (.slice X s.ans.items.length cx), (.int .u64 (↑s.ans.ver : Int)), (.int .i64 s.ans.count), (.slice N s.ans.nums.length cn), (.slice A s.bs.length c)] := hb_g
 have hW := hR.bnd
 have hgl := hb_g.lt
 have hok := hR.ok
 obtain ⟨kp1, kp2, ki1, ki2, ko1, khl, kph1, kph4, ksz, kbl, kan, kcb⟩ := id hok
 have hne1 := hR.ne1
 have hne2 := hR.ne2
 have hne3 := hR.ne3
 have hKS := Kp.refl (cnS g (⟨gb, gd, Db, Dd, K, ck, V, cv, T, ct, X, cx, xs, N, cn, A, c⟩ : CnP)) w
 refine fn_enter (args := [(.pointer (some ⟨g, 0, none⟩)), (.agg #[(.int .i64 r.op), (.int .i64 r.err), (.slice X9 r.items.length cx9), (.int .u64 (↑r.ver : Int)), (.int .i64 r.count), (.slice N9 r.nums.length cn9)])]) Tryz.func24 rfl rfl rfl ?_
 show WC _ _ _ _ [(0, (.pointer (some ⟨g, 0, none⟩))), (1, (.agg #[(.int .i64 r.op), (.int .i64 r.err), (.slice X9 r.items.length cx9), (.int .u64 (↑r.ver : Int)), (.int .i64 r.count), (.slice N9 r.nums.length cn9)]))] _
 refine wc_seq (wc_regionL ?_)
 refine wl_step (or_box (cs := [(.int .i64 r.op), (.int .i64 r.err), (.slice X9 r.items.length cx9), (.int .u64 (↑r.ver : Int)), (.int .i64 r.count), (.slice N9 r.nums.length cn9)]) rfl rfl) rfl rfl rfl ?_
 rintro v w1 ⟨g3, rfl, hb_g3, he3, hl3, hu3⟩
 replace hb_g := hb_g.ext he3
 replace hR := hR.ext he3
 replace hKS := Kp.te hKS he3
 replace hx9 := RdI.ext hx9 he3
 replace hn9 := hn9.ext he3
 have hz_he3 := he3.size
 refine va rfl rfl ?_
 refine q_nil (k_then (wc_seq (wc_seq (wc_regionL ?_))))
 refine vm rfl rfl ?_
 refine wl_step (or_call0 cl45 rfl rfl (cin_ok _ g a b s gb gd Db Dd K ck V cv T ct X cx xs N cn A c hb_g hR 2)) rfl rfl rfl ?_
 rintro v w2 ⟨rfl, he7⟩
 replace hb_g := hb_g.ext he7
 replace hR := hR.ext he7
 replace hKS := Kp.te hKS he7
 replace hx9 := RdI.ext hx9 he7
 replace hn9 := hn9.ext he7
 replace hb_g3 := hb_g3.ext he7
 have hz_he7 := he7.size
 refine va rfl rfl ?_
 refine q_nil (k_then (wc_seq (wc_regionL ?_)))
 refine vm rfl rfl ?_
 refine wl_val (ov_neq rfl rfl) rfl rfl rfl ?_
 refine q_nil (k_then ?_)
 refine wc_cond_d rfl (fun hc1 => ?_) (fun hc1 => ?_)
 ·refine wc_seq (wc_regionL ?_)
  refine vm rfl rfl ?_
  refine va rfl rfl ?_
  refine q_nil (k_then (q_ret (k_thenR ?_)))
  refine e_ret rfl rfl ?_
  have hin : cnIn s 2 = 8 ∧ ¬ s.ph = 2 := by
   by_cases q : s.ph = 2
   ·exact absurd (by rw [show cnIn s 2 = 0 from if_pos q]; rfl) hc1
   ·exact ⟨if_neg q, q⟩
  have e : cnAns s r = (s, 8) := if_pos hin.2
  rw [e, hin.1]
  exact ⟨rfl, CnTo.of (⟨gb, gd, Db, Dd, K, ck, V, cv, T, ct, X, cx, xs, N, cn, A, c⟩ : CnP) (⟨gb, gd, Db, Dd, K, ck, V, cv, T, ct, X, cx, xs, N, cn, A, c⟩ : CnP) hb_g hR hKS (fun x h => .inl h) (.inl ⟨rfl, rfl⟩)⟩
 ·refine q_skip (k_then (wc_seq (wc_seq ?_)))
  refine wc_draw mixed 11 [(11, eqv (.agg #[(.int .i64 r.op), (.int .i64 r.err), (.slice X9 r.items.length cx9), (.int .u64 (↑r.ver : Int)), (.int .i64 r.count), (.slice N9 r.nums.length cn9)])), (12, eqv (.bool true)), (13, eqv (.bool false)), (14, eqv (.bool false)), (15, eqv (.pointer (some ⟨g3, 0, none⟩))), (16, eqv (.int .i64 r.op)), (17, eqv (.pointer (some ⟨g, 0, none⟩))), (18, eqv (.pointer (some ⟨g, 0, none⟩))), (19, eqv (.pointer (some ⟨g, 6, none⟩))), (20, eqv (.pointer (some ⟨g, 6, none⟩))), (21, eqv (.int .i64 s.cmd.op))] [[], [0], [1], [2], [3], [3, 4], [3], [3, 6], [3, 7], [3, 8], [3, 9]] _ [] [] (fun _ _ h => h) trivial (by kernel_rfl) rfl ⟨⟨stb_eqv _, fun _ he => by cases he⟩, ⟨stb_eqv _, fun _ he => by cases he⟩, ⟨stb_eqv _, fun _ he => by cases he⟩, ⟨stb_eqv _, fun _ he => by cases he⟩, ⟨stb_eqv _, fun _ he => by cases he⟩, ⟨stb_eqv _, fun _ he => by cases he⟩, ⟨stb_eqv _, fun _ he => by cases he⟩, ⟨stb_eqv _, fun _ he => by cases he⟩, ⟨stb_eqv _, fun _ he => by cases he⟩, ⟨stb_eqv _, fun _ he => by cases he⟩, ⟨stb_eqv _, fun _ he => by cases he⟩, trivial⟩ ⟨?_, ?_, ?_, ?_, ?_, ?_, ?_, ?_, ?_, ?_, ?_, trivial⟩ ?_
  ·intro wd hxE
   replace hb_g3 := hb_g3.ext hxE
   have hz_hxE := hxE.size
   show OpG _ _ _ _ _ _
   exact og_plain rfl (ox_val (ov_loadBlk (cs := [(.int .i64 r.op), (.int .i64 r.err), (.slice X9 r.items.length cx9), (.int .u64 (↑r.ver : Int)), (.int .i64 r.count), (.slice N9 r.nums.length cn9)]) ag43_6 rfl hb_g3))
  ·intro wd hxE
   replace hx9 := RdI.ext hx9 hxE
   replace hn9 := hn9.ext hxE
   have hz_hxE := hxE.size
   rintro _ rfl
   show OpG _ _ _ _ _ _
   refine og_plain rfl (OpRun.mono (or_call0 cl53 rfl rfl (vd8_any _ r xs9 hv9 _ _ X9 cx9 N9 cn9 hx9 hn9 hrk hrz)) ?_)
   rintro v w203 ⟨rfl, he12⟩
   have hz_he12 := he12.size
   exact ⟨bt (hv8), he12⟩
  ·intro wd hxE
   have hz_hxE := hxE.size
   rintro _ rfl
   show OpG _ _ _ _ _ _
   exact og_plain rfl (ox_val (ov_not (b := true) rfl))
  ·intro wd hxE
   have hz_hxE := hxE.size
   rintro _ rfl
   show OpG _ _ _ _ _ _
   exact og_plain rfl (ox_val (ov_move rfl))
  ·intro wd hxE
   have hz_hxE := hxE.size
   rintro _ rfl
   show OpG _ _ _ _ _ _
   exact og_on rfl rfl rfl (ox_val (ov_field0 (off := 0) fo43_0 rfl))
  ·intro wd hxE
   replace hb_g3 := hb_g3.ext hxE
   have hz_hxE := hxE.size
   rintro _ rfl
   rintro _ rfl
   show OpG _ _ _ _ _ _
   exact og_on rfl rfl rfl (ox_val (ov_loadAt oc34 rfl hb_g3 rfl))
  ·intro wd hxE
   have hz_hxE := hxE.size
   rintro _ rfl
   show OpG _ _ _ _ _ _
   exact og_on rfl rfl rfl (ox_val (ov_move rfl))
  ·intro wd hxE
   have hz_hxE := hxE.size
   rintro _ rfl
   rintro _ rfl
   show OpG _ _ _ _ _ _
   exact og_on rfl rfl rfl (ox_val (ov_nilCheck rfl))
  ·intro wd hxE
   have hz_hxE := hxE.size
   rintro _ rfl
   rintro _ rfl
   show OpG _ _ _ _ _ _
   exact og_on rfl rfl rfl (ox_val (ov_field0 (off := 6) fo57_4 rfl))
  ·intro wd hxE
   have hz_hxE := hxE.size
   rintro _ rfl
   rintro _ rfl
   show OpG _ _ _ _ _ _
   exact og_on rfl rfl rfl (ox_val (ov_field0 (off := 0) fo39_0 rfl))
  ·intro wd hxE
   replace hb_g := hb_g.ext hxE
   have hz_hxE := hxE.size
   rintro _ rfl
   rintro _ rfl
   show OpG _ _ _ _ _ _
   exact og_on rfl rfl rfl (ox_val (ov_loadAt oc34 rfl hb_g rfl))
  ·intro wf4 hf4
   replace hb_g := hb_g.ext hf4
   replace hR := hR.ext hf4
   replace hKS := Kp.te hKS hf4
   replace hx9 := RdI.ext hx9 hf4
   replace hn9 := hn9.ext hf4
   replace hb_g3 := hb_g3.ext hf4
   have hz_hf4 := hf4.size
   rintro _ rfl
   rintro _ rfl
   rintro _ rfl
   rintro _ rfl
   rintro _ rfl
   rintro _ rfl
   rintro _ rfl
   rintro _ rfl
   rintro _ rfl
   rintro _ rfl
   rintro _ rfl
   show WL _ _ _ [_, _] _ _ _
   refine wl_gval (ov_neq rfl rfl) rfl rfl rfl rfl rfl ?_
   refine wl_val (ov_pick_f rfl rfl) rfl rfl rfl ?_
   refine q_nil (k_then ?_)
   refine wc_cond_d rfl (fun hc2 => ?_) (fun hc2 => ?_)
   ·refine wc_seq (wc_regionL ?_)
    refine va rfl rfl ?_
    refine q_nil (k_then (q_ret (k_thenR ?_)))
    refine e_ret rfl rfl ?_
    have hin : cnIn s 2 = 0 ∧ s.ph = 2 := by
     by_cases q : s.ph = 2
     ·exact ⟨if_pos q, q⟩
     ·exact absurd (show (((cnIn s 2 : Nat) : Int) ≠ 0) by rw [show cnIn s 2 = 8 from if_neg q]; decide) hc1
    have e : cnAns s r = (s, 2) := (if_neg (fun q => q hin.2)).trans (if_pos (.inr (by omega)))
    rw [e]
    exact ⟨rfl, CnTo.of (⟨gb, gd, Db, Dd, K, ck, V, cv, T, ct, X, cx, xs, N, cn, A, c⟩ : CnP) (⟨gb, gd, Db, Dd, K, ck, V, cv, T, ct, X, cx, xs, N, cn, A, c⟩ : CnP) hb_g hR hKS (fun x h => .inl h) (.inl ⟨rfl, rfl⟩)⟩
   ·refine q_skip (k_then (wc_seq (wc_regionL ?_)))
    refine vm rfl rfl ?_
    refine wl_val (ov_loadBlk (cs := [(.int .i64 r.op), (.int .i64 r.err), (.slice X9 r.items.length cx9), (.int .u64 (↑r.ver : Int)), (.int .i64 r.count), (.slice N9 r.nums.length cn9)]) ag43_6 rfl hb_g3) rfl rfl rfl ?_
    refine wl_step (or_call0 cl48 rfl rfl (cown_any _ r xs9 hv9 _ _ X9 cx9 N9 cn9 hx9 hn9 hrz)) rfl rfl rfl ?_
    rintro v w203 ⟨ys26, X26, cx26, N26, cn26, rfl, hc26, he26⟩
    replace hb_g := hb_g.ext he26
    replace hR := hR.ext he26
    replace hKS := Kp.te hKS he26
    replace hb_g3 := hb_g3.ext he26
    have hz_he26 := he26.size
    have hx26 := hc26.hx
    have hn26 := Own.rd hc26.n
    have hW0 := hW
    refine wl_step (or_call0 cl54 rfl rfl (cwrite_ok _ g a b s gb gd Db Dd K ck V cv T ct X cx xs N cn A c hb_g hR r ys26 hc26.v _ _ X26 cx26 N26 cn26 hx26 hn26 hrk hrz (fun x hx => Nat.lt_of_lt_of_le (hW.1 x hx) (by omega)) (by omega) (by omega))) rfl rfl rfl ?_
    rintro v w204 ⟨rfl, A27, c27, hb_g27, hR27, hk27⟩
    have hz27 := hk27.size
    replace hKS := hKS.tr hk27 (fun x hx => .inl hx)
    replace hb_g : Blk w204 g 57 [(.pointer (some ⟨gb, 0, none⟩)), (.int .i64 (↑s.ci : Int)), (.int .i64 (↑s.co : Int)), (.int .i64 (↑s.cp : Int)), (.pointer (some ⟨gd, 0, none⟩)), (.int .i64 3), (.int .i64 0), (.string (strB ([] : List UInt8))), (.slice none 0 0), (.slice none 0 0), (.slice none 0 0), (.int .u64 0), (.int .u64 0), (.string (strB ([] : List UInt8))), (.string (strB ([] : List UInt8))), (.string (strB ([] : List UInt8))), (.int .i64 r.op), (.int .i64 r.err), (.slice X26 r.items.length cx26), (.int .u64 (↑r.ver : Int)), (.int .i64 r.count), (.slice N26 r.nums.length cn26), (.slice A27 (cnFr r).length c27)] := hb_g27
    skip
    have hR := hR27
    have hW := hR.bnd
    replace hb_g3 := hk27.bk hb_g3 (fun e => by have := hW0.1 _ e; omega)
    refine q_nil (k_then (wc_seq (wc_seq ?_)))
    refine wc_draw mixed 10 [(28, eqv (.pointer (some ⟨g, 0, none⟩))), (29, eqv (.pointer (some ⟨g, 0, none⟩))), (30, eqv (.pointer (some ⟨g, 22, none⟩))), (31, eqv (.slice A27 (cnFr r).length c27)), (32, eqv (.int .i64 (↑(cnFr r).length : Int))), (33, eqv (.pointer (some ⟨g, 0, none⟩))), (34, eqv (.pointer (some ⟨g, 0, none⟩))), (35, eqv (.pointer (some ⟨g, 1, none⟩))), (36, eqv (.pointer (some ⟨g, 2, none⟩))), (37, eqv (.int .i64 (↑s.co : Int)))] [[], [0], [1], [2], [3], [], [5], [6], [7], [8]] _ [] [] (fun _ _ h => h) trivial (by kernel_rfl) rfl ⟨⟨stb_eqv _, fun _ he => by cases he⟩, ⟨stb_eqv _, fun _ he => by cases he⟩, ⟨stb_eqv _, fun _ he => by cases he⟩, ⟨stb_eqv _, fun _ he => by cases he⟩, ⟨stb_eqv _, fun _ he => by cases he⟩, ⟨stb_eqv _, fun _ he => by cases he⟩, ⟨stb_eqv _, fun _ he => by cases he⟩, ⟨stb_eqv _, fun _ he => by cases he⟩, ⟨stb_eqv _, fun _ he => by cases he⟩, ⟨stb_eqv _, fun _ he => by cases he⟩, trivial⟩ ⟨?_, ?_, ?_, ?_, ?_, ?_, ?_, ?_, ?_, ?_, trivial⟩ ?_
    ·intro wd hxE
     have hz_hxE := hxE.size
     show OpG _ _ _ _ _ _
     exact og_plain rfl (ox_val (ov_move rfl))
    ·intro wd hxE
     have hz_hxE := hxE.size
     rintro _ rfl
     show OpG _ _ _ _ _ _
     exact og_plain rfl (ox_val (ov_nilCheck rfl))
    ·intro wd hxE
     have hz_hxE := hxE.size
     rintro _ rfl
     show OpG _ _ _ _ _ _
     exact og_plain rfl (ox_val (ov_field0 (off := 22) fo57_6 rfl))
    ·intro wd hxE
     replace hb_g := hb_g.ext hxE
     have hz_hxE := hxE.size
     rintro _ rfl
     show OpG _ _ _ _ _ _
     exact og_plain rfl (ox_val (ov_loadAt oc32 rfl hb_g rfl))
    ·intro wd hxE
     have hz_hxE := hxE.size
     rintro _ rfl
     show OpG _ _ _ _ _ _
     exact og_plain rfl (ox_val (ov_len Tryz.underlying32 rfl))
    ·intro wd hxE
     have hz_hxE := hxE.size
     show OpG _ _ _ _ _ _
     exact og_plain rfl (ox_val (ov_move rfl))
    ·intro wd hxE
     have hz_hxE := hxE.size
     rintro _ rfl
     show OpG _ _ _ _ _ _
     exact og_plain rfl (ox_val (ov_nilCheck rfl))
    ·intro wd hxE
     have hz_hxE := hxE.size
     rintro _ rfl
     show OpG _ _ _ _ _ _
     exact og_plain rfl (ox_val (ov_field0 (off := 1) fo57_1 rfl))
    ·intro wd hxE
     have hz_hxE := hxE.size
     rintro _ rfl
     show OpG _ _ _ _ _ _
     exact og_plain rfl (ox_val (ov_field0 (off := 1) fo23_1 rfl))
    ·intro wd hxE
     replace hb_g := hb_g.ext hxE
     have hz_hxE := hxE.size
     rintro _ rfl
     show OpG _ _ _ _ _ _
     exact og_plain rfl (ox_val (ov_loadAt oc3 rfl hb_g rfl))
    ·intro wf7 hf7
     replace hb_g3 := hb_g3.ext hf7
     replace hb_g := hb_g.ext hf7
     replace hR := hR.ext hf7
     replace hKS := Kp.te hKS hf7
     have hz_hf7 := hf7.size
     rintro _ rfl
     rintro _ rfl
     rintro _ rfl
     rintro _ rfl
     rintro _ rfl
     rintro _ rfl
     rintro _ rfl
     rintro _ rfl
     rintro _ rfl
     rintro _ rfl
     show WL _ _ _ [_] _ _ _
     refine wl_val (ov_gtr rfl rfl) rfl rfl rfl ?_
     refine q_nil (k_then ?_)
     refine wc_cond_d rfl (fun hc3 => ?_) (fun hc3 => ?_)
     ·refine wc_regionL ?_
      refine vm rfl rfl ?_
      refine wl_val (ov_field0 (off := 0) fo43_0 rfl) rfl rfl rfl ?_
      refine wl_val (ov_loadAt oc34 rfl hb_g3 rfl) rfl rfl rfl ?_
      refine wl_step (or_call0 cl55 rfl rfl (fail8_any _ _ _)) rfl rfl rfl ?_
      rintro v w205 ⟨rfl, he42⟩
      replace hb_g := hb_g.ext he42
      replace hR := hR.ext he42
      replace hKS := Kp.te hKS he42
      have hz_he42 := he42.size
      refine wl_step (or_call0 cl54 rfl rfl (cwrite_ok _ g _ _ (cnW s r) gb gd Db Dd none 0 none 0 none 0 X26 cx26 ys26 N26 cn26 A27 c27 hb_g hR (rspO r.op 5) [] rfl w205.heap.size w205.heap.size none 0 none 0 (RdI.nil _ _ _) (Rd.nil _ _ _ _ _ _ (Nat.zero_le _)) (rspok_e _ _) (rsz_e _ _) (fun x hx => Nat.lt_of_lt_of_le (hW.1 x hx) (by omega)) (Nat.le_refl _) (Nat.le_refl _))) rfl rfl rfl ?_
      rintro v w206 ⟨rfl, A43, c43, hb_g43, hR43, hk43⟩
      have hz43 := hk43.size
      replace hKS := hKS.tr hk43 (fun x hx => .inl hx)
      refine q_nil (k_then (wc_seq (wc_regionL ?_)))
      refine va rfl rfl ?_
      refine q_nil (k_then (q_ret ?_))
      refine e_ret rfl rfl ?_
      have hin : cnIn s 2 = 0 ∧ s.ph = 2 := by
       by_cases q : s.ph = 2
       ·exact ⟨if_pos q, q⟩
       ·exact absurd (show (((cnIn s 2 : Nat) : Int) ≠ 0) by rw [show cnIn s 2 = 8 from if_neg q]; decide) hc1
      have e : cnAns s r = (cnW s (rspO r.op 5), 0) := (if_neg (fun q => q hin.2)).trans ((if_neg (by rintro (q | q); exact q hv8; exact q (by omega))).trans (if_pos (by omega)))
      rw [e]
      exact ⟨rfl, CnTo.of (⟨gb, gd, Db, Dd, K, ck, V, cv, T, ct, X, cx, xs, N, cn, A, c⟩ : CnP) _ hb_g43 hR43 hKS (fun x h => .inl h) (.inr (by omega))⟩
     ·refine q_skip (k_then (wc_seq (wc_regionL ?_)))
      refine va rfl rfl ?_
      refine q_nil (k_then (q_ret ?_))
      refine e_ret rfl rfl ?_
      have hin : cnIn s 2 = 0 ∧ s.ph = 2 := by
       by_cases q : s.ph = 2
       ·exact ⟨if_pos q, q⟩
       ·exact absurd (show (((cnIn s 2 : Nat) : Int) ≠ 0) by rw [show cnIn s 2 = 8 from if_neg q]; decide) hc1
      have e : cnAns s r = (cnW s r, 0) := (if_neg (fun q => q hin.2)).trans ((if_neg (by rintro (q | q); exact q hv8; exact q (by omega))).trans (if_neg (by omega)))
      rw [e]
      exact ⟨rfl, CnTo.of (⟨gb, gd, Db, Dd, K, ck, V, cv, T, ct, X, cx, xs, N, cn, A, c⟩ : CnP) (⟨gb, gd, Db, Dd, Option.none, 0, Option.none, 0, Option.none, 0, X26, cx26, ys26, N26, cn26, A27, c27⟩ : CnP) hb_g hR hKS (fun x h => .inl h) (.inr (by omega))⟩
end Go.Proofs.YtiighkbehiddkaaGreat