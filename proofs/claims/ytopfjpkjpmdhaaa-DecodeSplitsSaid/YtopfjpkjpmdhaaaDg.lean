/-
  The known calls of a decoder.
-/
import Derived.Test.YtopfjpkjpmdhaaaDf
namespace Go.Proofs.Ytopfjpkjpmdhaaa
open Go.RowKit
set_option linter.unusedVariables false
set_option maxRecDepth 4000
theorem cl34 : callable Try.prog 34 = true := by kernel_rfl
theorem cl39 : callable Try.prog 39 = true := by kernel_rfl
theorem cl40 : callable Try.prog 40 = true := by kernel_rfl
theorem cl42 : callable Try.prog 42 = true := by kernel_rfl
theorem cl49 : callable Try.prog 49 = true := by kernel_rfl

set_option maxRecDepth 20000 in
set_option maxHeartbeats 2000000 in
theorem known06_any (w : World) :
    Fn Try.prog 30 #[] w (fun v w' => v = .bool true ∧ Ext w w')  := by
  have hE := ext_refl w
  refine fn_enter (args := []) Try.func30 rfl rfl rfl ?_
  show WC _ _ _ _ [] _
  refine wc_seq ?_
  refine wc_regionL ?_
  refine wl_val (ov_assign rfl) rfl rfl rfl ?_
  refine q_nil ?_
  refine k_then ?_
  refine wc_seq ?_
  refine wc_regionL ?_
  refine wl_val (ov_build (cs := [(.int .u8 0), (.slice none 0 0)]) ze72 pl72 rfl rfl) rfl rfl rfl ?_
  refine wl_step (or_alloc (cs := [(.int .u8 0), (.slice none 0 0)]) ze72 rfl) rfl rfl rfl ?_
  rintro v w1 ⟨g1, rfl, hb_g1, he1, hl1, hu1⟩
  replace hE := hE.tr he1
  have hz_he1 := he1.size
  refine wl_step0 (or_storeBlk (vs := [(.int .u8 0), (.slice none 0 0)]) sz72 rfl rfl (by simp [Value.oneCell']) hb_g1 rfl) rfl rfl ?_
  rintro _ w2 ⟨hN2, hg2⟩
  have hz_hg2 := hg2.size
  replace hE := hE.gr hg2 (fun _ e => by cases e; omega)
  replace hb_g1 := hN2
  refine q_nil ?_
  refine k_then ?_
  refine wc_seq ?_
  refine wc_regionL ?_
  refine wl_step (or_call0 cl35 rfl rfl (dnew_ok _ 2 (by omega))) rfl rfl rfl ?_
  rintro v w3 ⟨gn10, rfl, hb10, he10, hg110⟩
  replace hE := hE.tr he10
  replace hb_g1 := hb_g1.ext he10
  have hz_he10 := he10.size
  have hDs10 : ∀ x, (none : Option Nat) = some x → w2.heap.size ≤ x ∧ x < w3.heap.size := fun x e => by cases e
  have hzb10 := hb10.lt.1
  have hcp10 := hb10.cap
  have hnl10 : ([] : List UInt8).length = 0 := rfl
  refine wl_val (ov_move rfl) rfl rfl rfl ?_
  refine wl_val (ov_extract rfl rfl) rfl rfl rfl ?_
  refine wl_val (ov_extract rfl rfl) rfl rfl rfl ?_
  refine wl_val (ov_assign rfl) rfl rfl rfl ?_
  refine wl_val (ov_assign rfl) rfl rfl rfl ?_
  refine q_nil ?_
  refine k_then ?_
  refine wc_seq ?_
  refine wc_seq ?_
  refine wc_regionL ?_
  refine wl_val (ov_move rfl) rfl rfl rfl ?_
  refine wl_val (ov_nilptr Try.underlying68 rfl) rfl rfl rfl ?_
  refine wl_val (ov_move rfl) rfl rfl rfl ?_
  refine wl_gval (ov_move rfl) rfl rfl rfl rfl rfl ?_
  refine wl_gval (ov_neq rfl rfl) rfl rfl rfl rfl rfl ?_
  refine wl_val (ov_pick_f rfl rfl) rfl rfl rfl ?_
  refine wl_val (ov_move rfl) rfl rfl rfl ?_
  refine wl_gval (ov_move rfl) rfl rfl rfl rfl rfl ?_
  refine wl_gval (ov_loadBlk (cs := [(.int .u8 0), (.slice none 0 0)]) ag72_2 rfl hb_g1) rfl rfl rfl rfl rfl ?_
  refine wl_gstep (or_call0 cl40 rfl rfl (lnext_ok _ w2.heap.size gn10 none 2 false ([] : List UInt8) hb10 (by first | omega | (simp; done)) _ _ (0) _ _ [] (RdB.nil _ 0 0) (by omega) (by omega) (fun x e => by have := hDs10 x e; omega) 4 (by decide) (by decide))) rfl rfl rfl rfl rfl ?_
  rintro v w4 ⟨rfl, hb22, hC22⟩
  have hDa22 : ∀ x, none = some x → (w2.heap.size ≤ x ∧ x < w3.heap.size) ∧ x < w3.heap.size := fun x e => ⟨hDs10 x e, (hb10.lt.2 x e).2⟩
  have hz_hC22 := hC22.size
  replace hE := hC22.e0 hE (by omega) (fun x e => by have := hDa22 x e; omega)
  replace hb_g1 := hC22.bk hb_g1 (by omega) (fun e2 => by have := hDa22 _ e2; omega)
  replace hb22 : Dec _ w2.heap.size gn10 none 2 false [] := hb22
  have hzb22 := hb22.lt.1
  have hcp22 := hb22.cap
  refine wl_gval (ov_not (b := true) rfl) rfl rfl rfl rfl rfl ?_
  refine wl_val (ov_pick_f rfl rfl) rfl rfl rfl ?_
  refine wl_val (ov_move rfl) rfl rfl rfl ?_
  refine wl_gval (ov_move rfl) rfl rfl rfl rfl rfl ?_
  refine wl_gstep (or_call0 cl39 rfl rfl (dneed_ok _ w2.heap.size gn10 none 2 false [] hb22 (by first | omega | (simp; done)))) rfl rfl rfl rfl rfl ?_
  rintro v w5 ⟨rfl, he27⟩
  replace hE := hE.tr he27
  replace hb_g1 := hb_g1.ext he27
  replace hb22 := hb22.ext he27
  have hz_he27 := he27.size
  refine wl_gval (ov_neq rfl rfl) rfl rfl rfl rfl rfl ?_
  refine wl_spell (d := 28) rfl (bf (by decide)) ?_
  refine wl_val (ov_pick_f rfl rfl) rfl rfl rfl ?_
  refine wl_val (ov_move rfl) rfl rfl rfl ?_
  refine wl_gval (ov_move rfl) rfl rfl rfl rfl rfl ?_
  refine wl_gstep (or_buildBytes (l := [3, 9]) bt26 (os := [.const (.int .u8 3), .const (.int .u8 9)]) rfl rfl rfl (by decide)) rfl rfl rfl rfl rfl ?_
  rintro v w6 ⟨A32, c32, rfl, ho32, he32⟩
  replace hE := hE.tr he32
  replace hb_g1 := hb_g1.ext he32
  replace hb22 := hb22.ext he32
  have hz_he32 := he32.size
  have hq_ho32 := fun g e => Own.lt ho32 (g := g) e
  refine wl_gstep (or_call0 cl38 rfl rfl (dfeed_ok _ w2.heap.size gn10 none 2 false [] hb22 (by first | omega | (simp; done)) _ _ _ _ [3, 9] (OwnB.rd ho32) (by omega) (fun x e => by have := hDs10 x e; omega) (by omega) (by first | omega | (simp; done)))) rfl rfl rfl rfl rfl ?_
  rintro v w7 ⟨rfl, ⟨D33, hb33, hN33⟩, hC33⟩
  have hDa33 : ∀ x, none = some x → (w2.heap.size ≤ x ∧ x < w3.heap.size) ∧ x < w6.heap.size := fun x e => ⟨hDs10 x e, (hb22.lt.2 x e).2⟩
  have hz_hC33 := hC33.size
  replace hE := hC33.e0 hE (by omega) (fun x e => by have := hDa33 x e; omega)
  replace hb_g1 := hC33.bk hb_g1 (by omega) (fun e2 => by have := hDa33 _ e2; omega)
  replace ho32 := hC33.own ho32 (fun x e => by first | exact ⟨by have := hq_ho32 x e; omega, fun e2 => by have h1 := hq_ho32 x e; have h2 := hDa33 x e2; omega⟩)
  replace hb33 : Dec _ w2.heap.size gn10 D33 2 false [3, 9] := hb33
  have hDs33 : ∀ x, D33 = some x → ((w2.heap.size ≤ x ∧ x < w3.heap.size) ∨ w6.heap.size ≤ x) ∧ x < w7.heap.size := fun x e => ⟨(hN33 x e).imp (fun h => hDs10 x h) id, (hb33.lt.2 x e).2⟩
  have hzb33 := hb33.lt.1
  have hcp33 := hb33.cap
  refine wl_gval (ov_neq rfl rfl) rfl rfl rfl rfl rfl ?_
  refine wl_spell (d := 34) rfl (bf (by decide)) ?_
  refine wl_val (ov_pick_f rfl rfl) rfl rfl rfl ?_
  refine wl_val (ov_move rfl) rfl rfl rfl ?_
  refine wl_gval (ov_move rfl) rfl rfl rfl rfl rfl ?_
  refine wl_gval (ov_loadBlk (cs := [(.int .u8 0), (.slice none 0 0)]) ag72_2 rfl hb_g1) rfl rfl rfl rfl rfl ?_
  refine wl_gstep (or_call0 cl40 rfl rfl (lnext_ok _ w2.heap.size gn10 D33 2 false [3, 9] hb33 (by first | omega | (simp; done)) _ _ (0) _ _ [] (RdB.nil _ 0 0) (by omega) (by omega) (fun x e => by have := hDs33 x e; omega) 4 (by decide) (by decide))) rfl rfl rfl rfl rfl ?_
  rintro v w8 ⟨rfl, hb39, hC39⟩
  have hDa39 : ∀ x, D33 = some x → (((w2.heap.size ≤ x ∧ x < w3.heap.size) ∨ w6.heap.size ≤ x) ∧ x < w7.heap.size) ∧ x < w7.heap.size := fun x e => ⟨hDs33 x e, (hb33.lt.2 x e).2⟩
  have hz_hC39 := hC39.size
  replace hE := hC39.e0 hE (by omega) (fun x e => by have := hDa39 x e; omega)
  replace hb_g1 := hC39.bk hb_g1 (by omega) (fun e2 => by have := hDa39 _ e2; omega)
  replace ho32 := hC39.own ho32 (fun x e => by first | exact ⟨by have := hq_ho32 x e; omega, fun e2 => by have h1 := hq_ho32 x e; have h2 := hDa39 x e2; omega⟩)
  replace hb39 : Dec _ w2.heap.size gn10 D33 2 false [3, 9] := hb39
  have hzb39 := hb39.lt.1
  have hcp39 := hb39.cap
  refine wl_gval (ov_not (b := true) rfl) rfl rfl rfl rfl rfl ?_
  refine wl_val (ov_pick_f rfl rfl) rfl rfl rfl ?_
  refine wl_val (ov_move rfl) rfl rfl rfl ?_
  refine wl_gval (ov_move rfl) rfl rfl rfl rfl rfl ?_
  refine wl_gstep (or_call0 cl39 rfl rfl (dneed_ok _ w2.heap.size gn10 D33 2 false [3, 9] hb39 (by first | omega | (simp; done)))) rfl rfl rfl rfl rfl ?_
  rintro v w9 ⟨rfl, he44⟩
  replace hE := hE.tr he44
  replace hb_g1 := hb_g1.ext he44
  replace ho32 := Own.ext ho32 he44
  replace hb39 := hb39.ext he44
  have hz_he44 := he44.size
  refine wl_gval (ov_neq rfl rfl) rfl rfl rfl rfl rfl ?_
  refine wl_spell (d := 45) rfl (bf (by decide)) ?_
  refine wl_val (ov_pick_f rfl rfl) rfl rfl rfl ?_
  refine wl_val (ov_move rfl) rfl rfl rfl ?_
  refine wl_gval (ov_move rfl) rfl rfl rfl rfl rfl ?_
  refine wl_gstep (or_call0 cl42 rfl rfl (dheld_ok _ w2.heap.size gn10 D33 2 false [3, 9] hb39 (by first | omega | (simp; done)))) rfl rfl rfl rfl rfl ?_
  rintro v w10 ⟨rfl, he49⟩
  replace hE := hE.tr he49
  replace hb_g1 := hb_g1.ext he49
  replace ho32 := Own.ext ho32 he49
  replace hb39 := hb39.ext he49
  have hz_he49 := he49.size
  refine wl_gval (ov_neq rfl rfl) rfl rfl rfl rfl rfl ?_
  refine wl_spell (d := 50) rfl (bf (by decide)) ?_
  refine wl_val (ov_pick_f rfl rfl) rfl rfl rfl ?_
  refine q_nil ?_
  refine k_then ?_
  refine wc_cond_f rfl ?_
  refine q_skip ?_
  refine k_then ?_
  refine wc_seq ?_
  refine wc_seq ?_
  refine wc_regionL ?_
  refine wl_val (ov_move rfl) rfl rfl rfl ?_
  refine wl_step (or_buildBytes (l := [97, 98, 0, 1]) bt26 (os := [.const (.int .u8 97), .const (.int .u8 98), .const (.int .u8 0), .const (.int .u8 1)]) rfl rfl rfl (by decide)) rfl rfl rfl ?_
  rintro v w11 ⟨A53, c53, rfl, ho53, he53⟩
  replace hE := hE.tr he53
  replace hb_g1 := hb_g1.ext he53
  replace ho32 := Own.ext ho32 he53
  replace hb39 := hb39.ext he53
  have hz_he53 := he53.size
  have hq_ho53 := fun g e => Own.lt ho53 (g := g) e
  refine wl_step (or_call0 cl38 rfl rfl (dfeed_ok _ w2.heap.size gn10 D33 2 false [3, 9] hb39 (by first | omega | (simp; done)) _ _ _ _ [97, 98, 0, 1] (OwnB.rd ho53) (by omega) (fun x e => by have := hDs33 x e; omega) (by omega) (by first | omega | (simp; done)))) rfl rfl rfl ?_
  rintro v w12 ⟨rfl, ⟨D54, hb54, hN54⟩, hC54⟩
  have hDa54 : ∀ x, D33 = some x → (((w2.heap.size ≤ x ∧ x < w3.heap.size) ∨ w6.heap.size ≤ x) ∧ x < w7.heap.size) ∧ x < w11.heap.size := fun x e => ⟨hDs33 x e, (hb39.lt.2 x e).2⟩
  have hz_hC54 := hC54.size
  replace hE := hC54.e0 hE (by omega) (fun x e => by have := hDa54 x e; omega)
  replace hb_g1 := hC54.bk hb_g1 (by omega) (fun e2 => by have := hDa54 _ e2; omega)
  replace ho32 := hC54.own ho32 (fun x e => by first | exact ⟨by have := hq_ho32 x e; omega, fun e2 => by have h1 := hq_ho32 x e; have h2 := hDa54 x e2; omega⟩)
  replace ho53 := hC54.own ho53 (fun x e => by first | exact ⟨by have := hq_ho53 x e; omega, fun e2 => by have h1 := hq_ho53 x e; have h2 := hDa54 x e2; omega⟩)
  replace hb54 : Dec _ w2.heap.size gn10 D54 2 false [3, 9, 97, 98, 0, 1] := hb54
  have hDs54 : ∀ x, D54 = some x → ((((w2.heap.size ≤ x ∧ x < w3.heap.size) ∨ w6.heap.size ≤ x) ∧ x < w7.heap.size) ∨ w11.heap.size ≤ x) ∧ x < w12.heap.size := fun x e => ⟨(hN54 x e).imp (fun h => hDs33 x h) id, (hb54.lt.2 x e).2⟩
  have hzb54 := hb54.lt.1
  have hcp54 := hb54.cap
  refine wl_val (ov_neq rfl rfl) rfl rfl rfl ?_
  refine wl_spell (d := 55) rfl (bf (by decide)) ?_
  refine wl_val (ov_move rfl) rfl rfl rfl ?_
  refine wl_gval (ov_move rfl) rfl rfl rfl rfl rfl ?_
  refine wl_gstep (or_buildBytes (l := [97, 98]) bt26 (os := [.const (.int .u8 97), .const (.int .u8 98)]) rfl rfl rfl (by decide)) rfl rfl rfl rfl rfl ?_
  rintro v w13 ⟨A58, c58, rfl, ho58, he58⟩
  replace hE := hE.tr he58
  replace hb_g1 := hb_g1.ext he58
  replace ho32 := Own.ext ho32 he58
  replace ho53 := Own.ext ho53 he58
  replace hb54 := hb54.ext he58
  have hz_he58 := he58.size
  have hq_ho58 := fun g e => Own.lt ho58 (g := g) e
  refine wl_gstep (or_markBytes bt26 rfl ho58 (by simp)) rfl rfl rfl rfl rfl ?_
  rintro v w14 ⟨rfl, hr59, he59⟩
  have hz_he59 := he59.size
  replace hE := hE.gr he59 (fun g e => by have := hq_ho58 g e; omega)
  replace hb_g1 := hb_g1.gr he59 (fun e => by have := hq_ho58 _ e; omega)
  replace ho32 := Own.gr ho32 he59 (own_apart fun g e g2 e2 => by have := hq_ho32 g e; have := hq_ho58 g2 e2; omega)
  replace ho53 := Own.gr ho53 he59 (own_apart fun g e g2 e2 => by have := hq_ho53 g e; have := hq_ho58 g2 e2; omega)
  replace hb54 := by first | exact hb54.gr he59 (fun x e => by have := hq_ho58 x e; omega) (fun x e e2 => by have h1 := hq_ho58 x e; have h2 := hDs54 x e2; omega)
  refine wl_gval (ov_build (cs := [(.int .u8 9), (.slice A58 [97, 98].length c58)]) ze72 pl72 rfl rfl) rfl rfl rfl rfl rfl ?_
  refine wl_gstep (or_call0 cl40 rfl rfl (lnext_ok _ w2.heap.size gn10 D54 2 false [3, 9, 97, 98, 0, 1] hb54 (by first | omega | (simp; done)) _ _ (9) _ _ [97, 98] hr59 (by omega) (by omega) (fun x e => by have := hDs54 x e; omega) 0 (by decide) (by decide))) rfl rfl rfl rfl rfl ?_
  rintro v w15 ⟨rfl, hb61, hC61⟩
  have hDa61 : ∀ x, D54 = some x → (((((w2.heap.size ≤ x ∧ x < w3.heap.size) ∨ w6.heap.size ≤ x) ∧ x < w7.heap.size) ∨ w11.heap.size ≤ x) ∧ x < w12.heap.size) ∧ x < w14.heap.size := fun x e => ⟨hDs54 x e, (hb54.lt.2 x e).2⟩
  have hz_hC61 := hC61.size
  replace hE := hC61.e0 hE (by omega) (fun x e => by have := hDa61 x e; omega)
  replace hb_g1 := hC61.bk hb_g1 (by omega) (fun e2 => by have := hDa61 _ e2; omega)
  replace ho32 := hC61.own ho32 (fun x e => by first | exact ⟨by have := hq_ho32 x e; omega, fun e2 => by have h1 := hq_ho32 x e; have h2 := hDa61 x e2; omega⟩)
  replace ho53 := hC61.own ho53 (fun x e => by first | exact ⟨by have := hq_ho53 x e; omega, fun e2 => by have h1 := hq_ho53 x e; have h2 := hDa61 x e2; omega⟩)
  replace hr59 := hC61.rd hr59 (by omega) (fun x e => by have := hDa61 x e; omega)
  replace hb61 : Dec _ w2.heap.size gn10 D54 2 false [0, 1] := hb61
  have hzb61 := hb61.lt.1
  have hcp61 := hb61.cap
  refine wl_gval (ov_not (b := true) rfl) rfl rfl rfl rfl rfl ?_
  refine wl_val (ov_pick_f rfl rfl) rfl rfl rfl ?_
  refine wl_val (ov_move rfl) rfl rfl rfl ?_
  refine wl_gval (ov_move rfl) rfl rfl rfl rfl rfl ?_
  refine wl_gval (ov_loadBlk (cs := [(.int .u8 0), (.slice none 0 0)]) ag72_2 rfl hb_g1) rfl rfl rfl rfl rfl ?_
  refine wl_gstep (or_call0 cl40 rfl rfl (lnext_ok _ w2.heap.size gn10 D54 2 false [0, 1] hb61 (by first | omega | (simp; done)) _ _ (0) _ _ [] (RdB.nil _ 0 0) (by omega) (by omega) (fun x e => by have := hDs54 x e; omega) 6 (by decide) (by decide))) rfl rfl rfl rfl rfl ?_
  rintro v w16 ⟨rfl, hb67, hC67⟩
  have hDa67 : ∀ x, D54 = some x → (((((w2.heap.size ≤ x ∧ x < w3.heap.size) ∨ w6.heap.size ≤ x) ∧ x < w7.heap.size) ∨ w11.heap.size ≤ x) ∧ x < w12.heap.size) ∧ x < w15.heap.size := fun x e => ⟨hDs54 x e, (hb61.lt.2 x e).2⟩
  have hz_hC67 := hC67.size
  replace hE := hC67.e0 hE (by omega) (fun x e => by have := hDa67 x e; omega)
  replace hb_g1 := hC67.bk hb_g1 (by omega) (fun e2 => by have := hDa67 _ e2; omega)
  replace ho32 := hC67.own ho32 (fun x e => by first | exact ⟨by have := hq_ho32 x e; omega, fun e2 => by have h1 := hq_ho32 x e; have h2 := hDa67 x e2; omega⟩)
  replace ho53 := hC67.own ho53 (fun x e => by first | exact ⟨by have := hq_ho53 x e; omega, fun e2 => by have h1 := hq_ho53 x e; have h2 := hDa67 x e2; omega⟩)
  replace hr59 := hC67.rd hr59 (by omega) (fun x e => by have := hDa67 x e; omega)
  replace hb67 : Dec _ w2.heap.size gn10 D54 2 false [1] := hb67
  have hzb67 := hb67.lt.1
  have hcp67 := hb67.cap
  refine wl_gval (ov_not (b := true) rfl) rfl rfl rfl rfl rfl ?_
  refine wl_val (ov_pick_f rfl rfl) rfl rfl rfl ?_
  refine wl_val (ov_move rfl) rfl rfl rfl ?_
  refine wl_gval (ov_move rfl) rfl rfl rfl rfl rfl ?_
  refine wl_gval (ov_loadBlk (cs := [(.int .u8 0), (.slice none 0 0)]) ag72_2 rfl hb_g1) rfl rfl rfl rfl rfl ?_
  refine wl_gstep (or_call0 cl40 rfl rfl (lnext_ok _ w2.heap.size gn10 D54 2 false [1] hb67 (by first | omega | (simp; done)) _ _ (0) _ _ [] (RdB.nil _ 0 0) (by omega) (by omega) (fun x e => by have := hDs54 x e; omega) 4 (by decide) (by decide))) rfl rfl rfl rfl rfl ?_
  rintro v w17 ⟨rfl, hb73, hC73⟩
  have hDa73 : ∀ x, D54 = some x → (((((w2.heap.size ≤ x ∧ x < w3.heap.size) ∨ w6.heap.size ≤ x) ∧ x < w7.heap.size) ∨ w11.heap.size ≤ x) ∧ x < w12.heap.size) ∧ x < w16.heap.size := fun x e => ⟨hDs54 x e, (hb67.lt.2 x e).2⟩
  have hz_hC73 := hC73.size
  replace hE := hC73.e0 hE (by omega) (fun x e => by have := hDa73 x e; omega)
  replace hb_g1 := hC73.bk hb_g1 (by omega) (fun e2 => by have := hDa73 _ e2; omega)
  replace ho32 := hC73.own ho32 (fun x e => by first | exact ⟨by have := hq_ho32 x e; omega, fun e2 => by have h1 := hq_ho32 x e; have h2 := hDa73 x e2; omega⟩)
  replace ho53 := hC73.own ho53 (fun x e => by first | exact ⟨by have := hq_ho53 x e; omega, fun e2 => by have h1 := hq_ho53 x e; have h2 := hDa73 x e2; omega⟩)
  replace hr59 := hC73.rd hr59 (by omega) (fun x e => by have := hDa73 x e; omega)
  replace hb73 : Dec _ w2.heap.size gn10 D54 2 false [1] := hb73
  have hzb73 := hb73.lt.1
  have hcp73 := hb73.cap
  refine wl_gval (ov_not (b := true) rfl) rfl rfl rfl rfl rfl ?_
  refine wl_val (ov_pick_f rfl rfl) rfl rfl rfl ?_
  refine wl_val (ov_move rfl) rfl rfl rfl ?_
  refine wl_gval (ov_move rfl) rfl rfl rfl rfl rfl ?_
  refine wl_gstep (or_buildBytes (l := [7]) bt26 (os := [.const (.int .u8 7)]) rfl rfl rfl (by decide)) rfl rfl rfl rfl rfl ?_
  rintro v w18 ⟨A78, c78, rfl, ho78, he78⟩
  replace hE := hE.tr he78
  replace hb_g1 := hb_g1.ext he78
  replace ho32 := Own.ext ho32 he78
  replace ho53 := Own.ext ho53 he78
  replace hr59 := hr59.ext he78
  replace hb73 := hb73.ext he78
  have hz_he78 := he78.size
  have hq_ho78 := fun g e => Own.lt ho78 (g := g) e
  refine wl_gstep (or_call0 cl38 rfl rfl (dfeed_ok _ w2.heap.size gn10 D54 2 false [1] hb73 (by first | omega | (simp; done)) _ _ _ _ [7] (OwnB.rd ho78) (by omega) (fun x e => by have := hDs54 x e; omega) (by omega) (by first | omega | (simp; done)))) rfl rfl rfl rfl rfl ?_
  rintro v w19 ⟨rfl, ⟨D79, hb79, hN79⟩, hC79⟩
  have hDa79 : ∀ x, D54 = some x → (((((w2.heap.size ≤ x ∧ x < w3.heap.size) ∨ w6.heap.size ≤ x) ∧ x < w7.heap.size) ∨ w11.heap.size ≤ x) ∧ x < w12.heap.size) ∧ x < w18.heap.size := fun x e => ⟨hDs54 x e, (hb73.lt.2 x e).2⟩
  have hz_hC79 := hC79.size
  replace hE := hC79.e0 hE (by omega) (fun x e => by have := hDa79 x e; omega)
  replace hb_g1 := hC79.bk hb_g1 (by omega) (fun e2 => by have := hDa79 _ e2; omega)
  replace ho32 := hC79.own ho32 (fun x e => by first | exact ⟨by have := hq_ho32 x e; omega, fun e2 => by have h1 := hq_ho32 x e; have h2 := hDa79 x e2; omega⟩)
  replace ho53 := hC79.own ho53 (fun x e => by first | exact ⟨by have := hq_ho53 x e; omega, fun e2 => by have h1 := hq_ho53 x e; have h2 := hDa79 x e2; omega⟩)
  replace hr59 := hC79.rd hr59 (by omega) (fun x e => by have := hDa79 x e; omega)
  replace ho78 := hC79.own ho78 (fun x e => by first | exact ⟨by have := hq_ho78 x e; omega, fun e2 => by have h1 := hq_ho78 x e; have h2 := hDa79 x e2; omega⟩)
  replace hb79 : Dec _ w2.heap.size gn10 D79 2 false [1, 7] := hb79
  have hDs79 : ∀ x, D79 = some x → ((((((w2.heap.size ≤ x ∧ x < w3.heap.size) ∨ w6.heap.size ≤ x) ∧ x < w7.heap.size) ∨ w11.heap.size ≤ x) ∧ x < w12.heap.size) ∨ w18.heap.size ≤ x) ∧ x < w19.heap.size := fun x e => ⟨(hN79 x e).imp (fun h => hDs54 x h) id, (hb79.lt.2 x e).2⟩
  have hzb79 := hb79.lt.1
  have hcp79 := hb79.cap
  refine wl_gval (ov_neq rfl rfl) rfl rfl rfl rfl rfl ?_
  refine wl_spell (d := 80) rfl (bf (by decide)) ?_
  refine wl_val (ov_pick_f rfl rfl) rfl rfl rfl ?_
  refine wl_val (ov_move rfl) rfl rfl rfl ?_
  refine wl_gval (ov_move rfl) rfl rfl rfl rfl rfl ?_
  refine wl_gval (ov_build (cs := [(.int .u8 7), (.slice none 0 0)]) ze72 pl72 rfl rfl) rfl rfl rfl rfl rfl ?_
  refine wl_gstep (or_call0 cl40 rfl rfl (lnext_ok _ w2.heap.size gn10 D79 2 false [1, 7] hb79 (by first | omega | (simp; done)) _ _ (7) _ _ [] (RdB.nil _ 0 0) (by omega) (by omega) (fun x e => by have := hDs79 x e; omega) 0 (by decide) (by decide))) rfl rfl rfl rfl rfl ?_
  rintro v w20 ⟨rfl, hb85, hC85⟩
  have hDa85 : ∀ x, D79 = some x → (((((((w2.heap.size ≤ x ∧ x < w3.heap.size) ∨ w6.heap.size ≤ x) ∧ x < w7.heap.size) ∨ w11.heap.size ≤ x) ∧ x < w12.heap.size) ∨ w18.heap.size ≤ x) ∧ x < w19.heap.size) ∧ x < w19.heap.size := fun x e => ⟨hDs79 x e, (hb79.lt.2 x e).2⟩
  have hz_hC85 := hC85.size
  replace hE := hC85.e0 hE (by omega) (fun x e => by have := hDa85 x e; omega)
  replace hb_g1 := hC85.bk hb_g1 (by omega) (fun e2 => by have := hDa85 _ e2; omega)
  replace ho32 := hC85.own ho32 (fun x e => by first | exact ⟨by have := hq_ho32 x e; omega, fun e2 => by have h1 := hq_ho32 x e; have h2 := hDa85 x e2; omega⟩)
  replace ho53 := hC85.own ho53 (fun x e => by first | exact ⟨by have := hq_ho53 x e; omega, fun e2 => by have h1 := hq_ho53 x e; have h2 := hDa85 x e2; omega⟩)
  replace hr59 := hC85.rd hr59 (by omega) (fun x e => by have := hDa85 x e; omega)
  replace ho78 := hC85.own ho78 (fun x e => by first | exact ⟨by have := hq_ho78 x e; omega, fun e2 => by have h1 := hq_ho78 x e; have h2 := hDa85 x e2; omega⟩)
  replace hb85 : Dec _ w2.heap.size gn10 D79 2 false [] := hb85
  have hzb85 := hb85.lt.1
  have hcp85 := hb85.cap
  refine wl_gval (ov_not (b := true) rfl) rfl rfl rfl rfl rfl ?_
  refine wl_val (ov_pick_f rfl rfl) rfl rfl rfl ?_
  refine q_nil ?_
  refine k_then ?_
  refine wc_cond_f rfl ?_
  refine q_skip ?_
  refine k_then ?_
  refine wc_seq ?_
  refine wc_seq ?_
  refine wc_regionL ?_
  refine wl_val (ov_move rfl) rfl rfl rfl ?_
  refine wl_step (or_buildBytes (l := [4]) bt26 (os := [.const (.int .u8 4)]) rfl rfl rfl (by decide)) rfl rfl rfl ?_
  rintro v w21 ⟨A89, c89, rfl, ho89, he89⟩
  replace hE := hE.tr he89
  replace hb_g1 := hb_g1.ext he89
  replace ho32 := Own.ext ho32 he89
  replace ho53 := Own.ext ho53 he89
  replace hr59 := hr59.ext he89
  replace ho78 := Own.ext ho78 he89
  replace hb85 := hb85.ext he89
  have hz_he89 := he89.size
  have hq_ho89 := fun g e => Own.lt ho89 (g := g) e
  refine wl_step (or_call0 cl38 rfl rfl (dfeed_ok _ w2.heap.size gn10 D79 2 false [] hb85 (by first | omega | (simp; done)) _ _ _ _ [4] (OwnB.rd ho89) (by omega) (fun x e => by have := hDs79 x e; omega) (by omega) (by first | omega | (simp; done)))) rfl rfl rfl ?_
  rintro v w22 ⟨rfl, ⟨D90, hb90, hN90⟩, hC90⟩
  have hDa90 : ∀ x, D79 = some x → (((((((w2.heap.size ≤ x ∧ x < w3.heap.size) ∨ w6.heap.size ≤ x) ∧ x < w7.heap.size) ∨ w11.heap.size ≤ x) ∧ x < w12.heap.size) ∨ w18.heap.size ≤ x) ∧ x < w19.heap.size) ∧ x < w21.heap.size := fun x e => ⟨hDs79 x e, (hb85.lt.2 x e).2⟩
  have hz_hC90 := hC90.size
  replace hE := hC90.e0 hE (by omega) (fun x e => by have := hDa90 x e; omega)
  replace hb_g1 := hC90.bk hb_g1 (by omega) (fun e2 => by have := hDa90 _ e2; omega)
  replace ho32 := hC90.own ho32 (fun x e => by first | exact ⟨by have := hq_ho32 x e; omega, fun e2 => by have h1 := hq_ho32 x e; have h2 := hDa90 x e2; omega⟩)
  replace ho53 := hC90.own ho53 (fun x e => by first | exact ⟨by have := hq_ho53 x e; omega, fun e2 => by have h1 := hq_ho53 x e; have h2 := hDa90 x e2; omega⟩)
  replace hr59 := hC90.rd hr59 (by omega) (fun x e => by have := hDa90 x e; omega)
  replace ho78 := hC90.own ho78 (fun x e => by first | exact ⟨by have := hq_ho78 x e; omega, fun e2 => by have h1 := hq_ho78 x e; have h2 := hDa90 x e2; omega⟩)
  replace ho89 := hC90.own ho89 (fun x e => by first | exact ⟨by have := hq_ho89 x e; omega, fun e2 => by have h1 := hq_ho89 x e; have h2 := hDa90 x e2; omega⟩)
  replace hb90 : Dec _ w2.heap.size gn10 D90 2 false [4] := hb90
  have hDs90 : ∀ x, D90 = some x → ((((((((w2.heap.size ≤ x ∧ x < w3.heap.size) ∨ w6.heap.size ≤ x) ∧ x < w7.heap.size) ∨ w11.heap.size ≤ x) ∧ x < w12.heap.size) ∨ w18.heap.size ≤ x) ∧ x < w19.heap.size) ∨ w21.heap.size ≤ x) ∧ x < w22.heap.size := fun x e => ⟨(hN90 x e).imp (fun h => hDs79 x h) id, (hb90.lt.2 x e).2⟩
  have hzb90 := hb90.lt.1
  have hcp90 := hb90.cap
  refine wl_val (ov_neq rfl rfl) rfl rfl rfl ?_
  refine wl_spell (d := 91) rfl (bf (by decide)) ?_
  refine wl_val (ov_move rfl) rfl rfl rfl ?_
  refine wl_gval (ov_move rfl) rfl rfl rfl rfl rfl ?_
  refine wl_gval (ov_loadBlk (cs := [(.int .u8 0), (.slice none 0 0)]) ag72_2 rfl hb_g1) rfl rfl rfl rfl rfl ?_
  refine wl_gstep (or_call0 cl40 rfl rfl (lnext_ok _ w2.heap.size gn10 D90 2 false [4] hb90 (by first | omega | (simp; done)) _ _ (0) _ _ [] (RdB.nil _ 0 0) (by omega) (by omega) (fun x e => by have := hDs90 x e; omega) 5 (by decide) (by decide))) rfl rfl rfl rfl rfl ?_
  rintro v w23 ⟨rfl, hb95, hC95⟩
  have hDa95 : ∀ x, D90 = some x → (((((((((w2.heap.size ≤ x ∧ x < w3.heap.size) ∨ w6.heap.size ≤ x) ∧ x < w7.heap.size) ∨ w11.heap.size ≤ x) ∧ x < w12.heap.size) ∨ w18.heap.size ≤ x) ∧ x < w19.heap.size) ∨ w21.heap.size ≤ x) ∧ x < w22.heap.size) ∧ x < w22.heap.size := fun x e => ⟨hDs90 x e, (hb90.lt.2 x e).2⟩
  have hz_hC95 := hC95.size
  replace hE := hC95.e0 hE (by omega) (fun x e => by have := hDa95 x e; omega)
  replace hb_g1 := hC95.bk hb_g1 (by omega) (fun e2 => by have := hDa95 _ e2; omega)
  replace ho32 := hC95.own ho32 (fun x e => by first | exact ⟨by have := hq_ho32 x e; omega, fun e2 => by have h1 := hq_ho32 x e; have h2 := hDa95 x e2; omega⟩)
  replace ho53 := hC95.own ho53 (fun x e => by first | exact ⟨by have := hq_ho53 x e; omega, fun e2 => by have h1 := hq_ho53 x e; have h2 := hDa95 x e2; omega⟩)
  replace hr59 := hC95.rd hr59 (by omega) (fun x e => by have := hDa95 x e; omega)
  replace ho78 := hC95.own ho78 (fun x e => by first | exact ⟨by have := hq_ho78 x e; omega, fun e2 => by have h1 := hq_ho78 x e; have h2 := hDa95 x e2; omega⟩)
  replace ho89 := hC95.own ho89 (fun x e => by first | exact ⟨by have := hq_ho89 x e; omega, fun e2 => by have h1 := hq_ho89 x e; have h2 := hDa95 x e2; omega⟩)
  replace hb95 : Dec _ w2.heap.size gn10 D90 2 true [] := hb95
  have hzb95 := hb95.lt.1
  have hcp95 := hb95.cap
  refine wl_gval (ov_not (b := true) rfl) rfl rfl rfl rfl rfl ?_
  refine wl_val (ov_pick_f rfl rfl) rfl rfl rfl ?_
  refine wl_val (ov_move rfl) rfl rfl rfl ?_
  refine wl_gval (ov_move rfl) rfl rfl rfl rfl rfl ?_
  refine wl_gstep (or_call0 cl49 rfl rfl (dclosed_ok _ w2.heap.size gn10 D90 2 true [] hb95 (by first | omega | (simp; done)))) rfl rfl rfl rfl rfl ?_
  rintro v w24 ⟨rfl, he100⟩
  replace hE := hE.tr he100
  replace hb_g1 := hb_g1.ext he100
  replace ho32 := Own.ext ho32 he100
  replace ho53 := Own.ext ho53 he100
  replace hr59 := hr59.ext he100
  replace ho78 := Own.ext ho78 he100
  replace ho89 := Own.ext ho89 he100
  replace hb95 := hb95.ext he100
  have hz_he100 := he100.size
  refine wl_gval (ov_not (b := true) rfl) rfl rfl rfl rfl rfl ?_
  refine wl_val (ov_pick_f rfl rfl) rfl rfl rfl ?_
  refine wl_val (ov_move rfl) rfl rfl rfl ?_
  refine wl_gval (ov_move rfl) rfl rfl rfl rfl rfl ?_
  refine wl_gval (ov_loadBlk (cs := [(.int .u8 0), (.slice none 0 0)]) ag72_2 rfl hb_g1) rfl rfl rfl rfl rfl ?_
  refine wl_gstep (or_call0 cl40 rfl rfl (lnext_ok _ w2.heap.size gn10 D90 2 true [] hb95 (by first | omega | (simp; done)) _ _ (0) _ _ [] (RdB.nil _ 0 0) (by omega) (by omega) (fun x e => by have := hDs90 x e; omega) 14 (by decide) (by decide))) rfl rfl rfl rfl rfl ?_
  rintro v w25 ⟨rfl, hb106, hC106⟩
  have hDa106 : ∀ x, D90 = some x → (((((((((w2.heap.size ≤ x ∧ x < w3.heap.size) ∨ w6.heap.size ≤ x) ∧ x < w7.heap.size) ∨ w11.heap.size ≤ x) ∧ x < w12.heap.size) ∨ w18.heap.size ≤ x) ∧ x < w19.heap.size) ∨ w21.heap.size ≤ x) ∧ x < w22.heap.size) ∧ x < w24.heap.size := fun x e => ⟨hDs90 x e, (hb95.lt.2 x e).2⟩
  have hz_hC106 := hC106.size
  replace hE := hC106.e0 hE (by omega) (fun x e => by have := hDa106 x e; omega)
  replace hb_g1 := hC106.bk hb_g1 (by omega) (fun e2 => by have := hDa106 _ e2; omega)
  replace ho32 := hC106.own ho32 (fun x e => by first | exact ⟨by have := hq_ho32 x e; omega, fun e2 => by have h1 := hq_ho32 x e; have h2 := hDa106 x e2; omega⟩)
  replace ho53 := hC106.own ho53 (fun x e => by first | exact ⟨by have := hq_ho53 x e; omega, fun e2 => by have h1 := hq_ho53 x e; have h2 := hDa106 x e2; omega⟩)
  replace hr59 := hC106.rd hr59 (by omega) (fun x e => by have := hDa106 x e; omega)
  replace ho78 := hC106.own ho78 (fun x e => by first | exact ⟨by have := hq_ho78 x e; omega, fun e2 => by have h1 := hq_ho78 x e; have h2 := hDa106 x e2; omega⟩)
  replace ho89 := hC106.own ho89 (fun x e => by first | exact ⟨by have := hq_ho89 x e; omega, fun e2 => by have h1 := hq_ho89 x e; have h2 := hDa106 x e2; omega⟩)
  replace hb106 : Dec _ w2.heap.size gn10 D90 2 true [] := hb106
  have hzb106 := hb106.lt.1
  have hcp106 := hb106.cap
  refine wl_gval (ov_not (b := true) rfl) rfl rfl rfl rfl rfl ?_
  refine wl_val (ov_pick_f rfl rfl) rfl rfl rfl ?_
  refine wl_val (ov_move rfl) rfl rfl rfl ?_
  refine wl_gval (ov_move rfl) rfl rfl rfl rfl rfl ?_
  refine wl_gstep (or_buildBytes (l := [1]) bt26 (os := [.const (.int .u8 1)]) rfl rfl rfl (by decide)) rfl rfl rfl rfl rfl ?_
  rintro v w26 ⟨A111, c111, rfl, ho111, he111⟩
  replace hE := hE.tr he111
  replace hb_g1 := hb_g1.ext he111
  replace ho32 := Own.ext ho32 he111
  replace ho53 := Own.ext ho53 he111
  replace hr59 := hr59.ext he111
  replace ho78 := Own.ext ho78 he111
  replace ho89 := Own.ext ho89 he111
  replace hb106 := hb106.ext he111
  have hz_he111 := he111.size
  have hq_ho111 := fun g e => Own.lt ho111 (g := g) e
  refine wl_gstep (or_call0 cl38 rfl rfl (dfeed_ok _ w2.heap.size gn10 D90 2 true [] hb106 (by first | omega | (simp; done)) _ _ _ _ [1] (OwnB.rd ho111) (by omega) (fun x e => by have := hDs90 x e; omega) (by omega) (by first | omega | (simp; done)))) rfl rfl rfl rfl rfl ?_
  rintro v w27 ⟨rfl, ⟨D112, hb112, hN112⟩, hC112⟩
  have hDa112 : ∀ x, D90 = some x → (((((((((w2.heap.size ≤ x ∧ x < w3.heap.size) ∨ w6.heap.size ≤ x) ∧ x < w7.heap.size) ∨ w11.heap.size ≤ x) ∧ x < w12.heap.size) ∨ w18.heap.size ≤ x) ∧ x < w19.heap.size) ∨ w21.heap.size ≤ x) ∧ x < w22.heap.size) ∧ x < w26.heap.size := fun x e => ⟨hDs90 x e, (hb106.lt.2 x e).2⟩
  have hz_hC112 := hC112.size
  replace hE := hC112.e0 hE (by omega) (fun x e => by have := hDa112 x e; omega)
  replace hb_g1 := hC112.bk hb_g1 (by omega) (fun e2 => by have := hDa112 _ e2; omega)
  replace ho32 := hC112.own ho32 (fun x e => by first | exact ⟨by have := hq_ho32 x e; omega, fun e2 => by have h1 := hq_ho32 x e; have h2 := hDa112 x e2; omega⟩)
  replace ho53 := hC112.own ho53 (fun x e => by first | exact ⟨by have := hq_ho53 x e; omega, fun e2 => by have h1 := hq_ho53 x e; have h2 := hDa112 x e2; omega⟩)
  replace hr59 := hC112.rd hr59 (by omega) (fun x e => by have := hDa112 x e; omega)
  replace ho78 := hC112.own ho78 (fun x e => by first | exact ⟨by have := hq_ho78 x e; omega, fun e2 => by have h1 := hq_ho78 x e; have h2 := hDa112 x e2; omega⟩)
  replace ho89 := hC112.own ho89 (fun x e => by first | exact ⟨by have := hq_ho89 x e; omega, fun e2 => by have h1 := hq_ho89 x e; have h2 := hDa112 x e2; omega⟩)
  replace ho111 := hC112.own ho111 (fun x e => by first | exact ⟨by have := hq_ho111 x e; omega, fun e2 => by have h1 := hq_ho111 x e; have h2 := hDa112 x e2; omega⟩)
  replace hb112 : Dec _ w2.heap.size gn10 D112 2 true [] := hb112
  have hDs112 : ∀ x, D112 = some x → ((((((((((w2.heap.size ≤ x ∧ x < w3.heap.size) ∨ w6.heap.size ≤ x) ∧ x < w7.heap.size) ∨ w11.heap.size ≤ x) ∧ x < w12.heap.size) ∨ w18.heap.size ≤ x) ∧ x < w19.heap.size) ∨ w21.heap.size ≤ x) ∧ x < w22.heap.size) ∨ w26.heap.size ≤ x) ∧ x < w27.heap.size := fun x e => ⟨(hN112 x e).imp (fun h => hDs90 x h) id, (hb112.lt.2 x e).2⟩
  have hzb112 := hb112.lt.1
  have hcp112 := hb112.cap
  refine wl_gval (ov_neq rfl rfl) rfl rfl rfl rfl rfl ?_
  refine wl_spell (d := 113) rfl (bf (by decide)) ?_
  refine wl_val (ov_pick_f rfl rfl) rfl rfl rfl ?_
  refine wl_val (ov_move rfl) rfl rfl rfl ?_
  refine wl_gval (ov_move rfl) rfl rfl rfl rfl rfl ?_
  refine wl_gstep (or_call0 cl42 rfl rfl (dheld_ok _ w2.heap.size gn10 D112 2 true [] hb112 (by first | omega | (simp; done)))) rfl rfl rfl rfl rfl ?_
  rintro v w28 ⟨rfl, he117⟩
  replace hE := hE.tr he117
  replace hb_g1 := hb_g1.ext he117
  replace ho32 := Own.ext ho32 he117
  replace ho53 := Own.ext ho53 he117
  replace hr59 := hr59.ext he117
  replace ho78 := Own.ext ho78 he117
  replace ho89 := Own.ext ho89 he117
  replace ho111 := Own.ext ho111 he117
  replace hb112 := hb112.ext he117
  have hz_he117 := he117.size
  refine wl_gval (ov_neq rfl rfl) rfl rfl rfl rfl rfl ?_
  refine wl_spell (d := 118) rfl (bf (by decide)) ?_
  refine wl_val (ov_pick_f rfl rfl) rfl rfl rfl ?_
  refine wl_val (ov_move rfl) rfl rfl rfl ?_
  refine wl_gval (ov_move rfl) rfl rfl rfl rfl rfl ?_
  refine wl_gstep (or_call0 cl39 rfl rfl (dneed_ok _ w2.heap.size gn10 D112 2 true [] hb112 (by first | omega | (simp; done)))) rfl rfl rfl rfl rfl ?_
  rintro v w29 ⟨rfl, he122⟩
  replace hE := hE.tr he122
  replace hb_g1 := hb_g1.ext he122
  replace ho32 := Own.ext ho32 he122
  replace ho53 := Own.ext ho53 he122
  replace hr59 := hr59.ext he122
  replace ho78 := Own.ext ho78 he122
  replace ho89 := Own.ext ho89 he122
  replace ho111 := Own.ext ho111 he122
  replace hb112 := hb112.ext he122
  have hz_he122 := he122.size
  refine wl_gval (ov_neq rfl rfl) rfl rfl rfl rfl rfl ?_
  refine wl_spell (d := 123) rfl (bf (by decide)) ?_
  refine wl_val (ov_pick_f rfl rfl) rfl rfl rfl ?_
  refine q_nil ?_
  refine k_then ?_
  refine wc_cond_f rfl ?_
  refine q_skip ?_
  refine k_then ?_
  refine wc_seq ?_
  refine wc_seq ?_
  refine wc_regionL ?_
  refine wl_step (or_buildBytes (l := [1, 5, 0, 2, 6, 97, 2]) bt26 (os := [.const (.int .u8 1), .const (.int .u8 5), .const (.int .u8 0), .const (.int .u8 2), .const (.int .u8 6), .const (.int .u8 97), .const (.int .u8 2)]) rfl rfl rfl (by decide)) rfl rfl rfl ?_
  rintro v w30 ⟨A125, c125, rfl, ho125, he125⟩
  replace hE := hE.tr he125
  replace hb_g1 := hb_g1.ext he125
  replace ho32 := Own.ext ho32 he125
  replace ho53 := Own.ext ho53 he125
  replace hr59 := hr59.ext he125
  replace ho78 := Own.ext ho78 he125
  replace ho89 := Own.ext ho89 he125
  replace ho111 := Own.ext ho111 he125
  replace hb112 := hb112.ext he125
  have hz_he125 := he125.size
  have hq_ho125 := fun g e => Own.lt ho125 (g := g) e
  refine wl_val (ov_build (cs := [(.int .u8 5), (.slice none 0 0)]) ze72 pl72 rfl rfl) rfl rfl rfl ?_
  refine wl_val (ov_loadBlk (cs := [(.int .u8 0), (.slice none 0 0)]) ag72_2 rfl hb_g1) rfl rfl rfl ?_
  refine wl_step (or_buildBytes (l := [97]) bt26 (os := [.const (.int .u8 97)]) rfl rfl rfl (by decide)) rfl rfl rfl ?_
  rintro v w31 ⟨A128, c128, rfl, ho128, he128⟩
  replace hE := hE.tr he128
  replace hb_g1 := hb_g1.ext he128
  replace ho32 := Own.ext ho32 he128
  replace ho53 := Own.ext ho53 he128
  replace hr59 := hr59.ext he128
  replace ho78 := Own.ext ho78 he128
  replace ho89 := Own.ext ho89 he128
  replace ho111 := Own.ext ho111 he128
  replace hb112 := hb112.ext he128
  replace ho125 := Own.ext ho125 he128
  have hz_he128 := he128.size
  have hq_ho128 := fun g e => Own.lt ho128 (g := g) e
  refine wl_step (or_markBytes bt26 rfl ho128 (by simp)) rfl rfl rfl ?_
  rintro v w32 ⟨rfl, hr129, he129⟩
  have hz_he129 := he129.size
  replace hE := hE.gr he129 (fun g e => by have := hq_ho128 g e; omega)
  replace hb_g1 := hb_g1.gr he129 (fun e => by have := hq_ho128 _ e; omega)
  replace ho32 := Own.gr ho32 he129 (own_apart fun g e g2 e2 => by have := hq_ho32 g e; have := hq_ho128 g2 e2; omega)
  replace ho53 := Own.gr ho53 he129 (own_apart fun g e g2 e2 => by have := hq_ho53 g e; have := hq_ho128 g2 e2; omega)
  replace hr59 := hr59.gr he129 (fun g e => by have := hq_ho128 g e; omega)
  replace ho78 := Own.gr ho78 he129 (own_apart fun g e g2 e2 => by have := hq_ho78 g e; have := hq_ho128 g2 e2; omega)
  replace ho89 := Own.gr ho89 he129 (own_apart fun g e g2 e2 => by have := hq_ho89 g e; have := hq_ho128 g2 e2; omega)
  replace ho111 := Own.gr ho111 he129 (own_apart fun g e g2 e2 => by have := hq_ho111 g e; have := hq_ho128 g2 e2; omega)
  replace hb112 := by first | exact hb112.gr he129 (fun x e => by have := hq_ho128 x e; omega) (fun x e e2 => by have h1 := hq_ho128 x e; have h2 := hDs112 x e2; omega)
  replace ho125 := Own.gr ho125 he129 (own_apart fun g e g2 e2 => by have := hq_ho125 g e; have := hq_ho128 g2 e2; omega)
  refine wl_val (ov_build (cs := [(.int .u8 6), (.slice A128 [97].length c128)]) ze72 pl72 rfl rfl) rfl rfl rfl ?_
  refine wl_step (or_buildSliceF (cs := [.int .u8 5, .slice none 0 0, .int .u8 0, .slice none 0 0, .int .u8 6, .slice A128 1 c128]) sl60 rfl (by kernel_rfl) (by decide) (by decide)) rfl rfl rfl ?_
  rintro v w33 ⟨g131, rfl, hb_g131, he131, hl131, hu131⟩
  replace hE := hE.tr he131
  replace hb_g1 := hb_g1.ext he131
  replace ho32 := Own.ext ho32 he131
  replace ho53 := Own.ext ho53 he131
  replace hr59 := hr59.ext he131
  replace ho78 := Own.ext ho78 he131
  replace ho89 := Own.ext ho89 he131
  replace ho111 := Own.ext ho111 he131
  replace hb112 := hb112.ext he131
  replace ho125 := Own.ext ho125 he131
  replace hr129 := hr129.ext he131
  have hz_he131 := he131.size
  refine wl_step (or_buildSlice1 (os := [.const (.int .i64 0), .const (.int .i64 6), .const (.int .i64 0)]) sl64 rfl rfl rfl (by simp [Value.oneCell']) (by decide)) rfl rfl rfl ?_
  rintro v w34 ⟨g132, rfl, hb_g132, he132, hl132, hu132, _⟩
  replace hE := hE.tr he132
  replace hb_g1 := hb_g1.ext he132
  replace ho32 := Own.ext ho32 he132
  replace ho53 := Own.ext ho53 he132
  replace hr59 := hr59.ext he132
  replace ho78 := Own.ext ho78 he132
  replace ho89 := Own.ext ho89 he132
  replace ho111 := Own.ext ho111 he132
  replace hb112 := hb112.ext he132
  replace ho125 := Own.ext ho125 he132
  replace hr129 := hr129.ext he132
  replace hb_g131 := hb_g131.ext he132
  have hz_he132 := he132.size
  refine wl_step (or_call0 cl34 rfl rfl (lall_ok _ _ _ _ _ [1, 5, 0, 2, 6, 97, 2] (OwnB.rd ho125) 9 (by omega) (by first | omega | (simp; done)) _ _ _ _ _ _ _ _ [((5, none, 0, []), 0), ((0, none, 0, []), 6), ((6, A128, c128, [97]), 0)] (Blk.rdF hb_g131 rfl (by simp [maxLen])) (Blk.rdF hb_g132 rfl (by simp [maxLen])) (by intro z hz; simp at hz; rcases hz with rfl | rfl | rfl; exact RdB.nil _ _ _; exact RdB.nil _ _ _; exact hr129.top.mono (Nat.zero_le _) (Nat.le_refl _)) (by kernel_rfl))) rfl rfl rfl ?_
  rintro v w35 ⟨rfl, he133⟩
  replace hE := hE.tr he133
  replace hb_g1 := hb_g1.ext he133
  replace ho32 := Own.ext ho32 he133
  replace ho53 := Own.ext ho53 he133
  replace hr59 := hr59.ext he133
  replace ho78 := Own.ext ho78 he133
  replace ho89 := Own.ext ho89 he133
  replace ho111 := Own.ext ho111 he133
  replace hb112 := hb112.ext he133
  replace ho125 := Own.ext ho125 he133
  replace hr129 := hr129.ext he133
  replace hb_g131 := hb_g131.ext he133
  replace hb_g132 := hb_g132.ext he133
  have hz_he133 := he133.size
  refine wl_val (ov_not (b := true) rfl) rfl rfl rfl ?_
  refine wl_val (ov_move rfl) rfl rfl rfl ?_
  refine wl_gstep (or_buildBytes (l := [9, 1]) bt26 (os := [.const (.int .u8 9), .const (.int .u8 1)]) rfl rfl rfl (by decide)) rfl rfl rfl rfl rfl ?_
  rintro v w36 ⟨A136, c136, rfl, ho136, he136⟩
  replace hE := hE.tr he136
  replace hb_g1 := hb_g1.ext he136
  replace ho32 := Own.ext ho32 he136
  replace ho53 := Own.ext ho53 he136
  replace hr59 := hr59.ext he136
  replace ho78 := Own.ext ho78 he136
  replace ho89 := Own.ext ho89 he136
  replace ho111 := Own.ext ho111 he136
  replace hb112 := hb112.ext he136
  replace ho125 := Own.ext ho125 he136
  replace hr129 := hr129.ext he136
  replace hb_g131 := hb_g131.ext he136
  replace hb_g132 := hb_g132.ext he136
  have hz_he136 := he136.size
  have hq_ho136 := fun g e => Own.lt ho136 (g := g) e
  refine wl_gval (ov_loadBlk (cs := [(.int .u8 0), (.slice none 0 0)]) ag72_2 rfl hb_g1) rfl rfl rfl rfl rfl ?_
  refine wl_gstep (or_buildSliceF (cs := [.int .u8 0, .slice none 0 0]) sl60 rfl (by kernel_rfl) (by decide) (by decide)) rfl rfl rfl rfl rfl ?_
  rintro v w37 ⟨g138, rfl, hb_g138, he138, hl138, hu138⟩
  replace hE := hE.tr he138
  replace hb_g1 := hb_g1.ext he138
  replace ho32 := Own.ext ho32 he138
  replace ho53 := Own.ext ho53 he138
  replace hr59 := hr59.ext he138
  replace ho78 := Own.ext ho78 he138
  replace ho89 := Own.ext ho89 he138
  replace ho111 := Own.ext ho111 he138
  replace hb112 := hb112.ext he138
  replace ho125 := Own.ext ho125 he138
  replace hr129 := hr129.ext he138
  replace hb_g131 := hb_g131.ext he138
  replace hb_g132 := hb_g132.ext he138
  replace ho136 := Own.ext ho136 he138
  have hz_he138 := he138.size
  refine wl_gstep (or_buildSlice1 (os := [.const (.int .i64 5)]) sl64 rfl rfl rfl (by simp [Value.oneCell']) (by decide)) rfl rfl rfl rfl rfl ?_
  rintro v w38 ⟨g139, rfl, hb_g139, he139, hl139, hu139, _⟩
  replace hE := hE.tr he139
  replace hb_g1 := hb_g1.ext he139
  replace ho32 := Own.ext ho32 he139
  replace ho53 := Own.ext ho53 he139
  replace hr59 := hr59.ext he139
  replace ho78 := Own.ext ho78 he139
  replace ho89 := Own.ext ho89 he139
  replace ho111 := Own.ext ho111 he139
  replace hb112 := hb112.ext he139
  replace ho125 := Own.ext ho125 he139
  replace hr129 := hr129.ext he139
  replace hb_g131 := hb_g131.ext he139
  replace hb_g132 := hb_g132.ext he139
  replace ho136 := Own.ext ho136 he139
  replace hb_g138 := hb_g138.ext he139
  have hz_he139 := he139.size
  refine wl_gstep (or_call0 cl34 rfl rfl (lall_ok _ _ _ _ _ [9, 1] (OwnB.rd ho136) 3 (by omega) (by first | omega | (simp; done)) _ _ _ _ _ _ _ _ [((0, none, 0, []), 5)] (Blk.rdF hb_g138 rfl (by decide)) (Blk.rdF hb_g139 rfl (by decide)) (by intro z hz; simp at hz; subst hz; exact RdB.nil _ _ _) (by kernel_rfl))) rfl rfl rfl rfl rfl ?_
  rintro v w39 ⟨rfl, he140⟩
  replace hE := hE.tr he140
  replace hb_g1 := hb_g1.ext he140
  replace ho32 := Own.ext ho32 he140
  replace ho53 := Own.ext ho53 he140
  replace hr59 := hr59.ext he140
  replace ho78 := Own.ext ho78 he140
  replace ho89 := Own.ext ho89 he140
  replace ho111 := Own.ext ho111 he140
  replace hb112 := hb112.ext he140
  replace ho125 := Own.ext ho125 he140
  replace hr129 := hr129.ext he140
  replace hb_g131 := hb_g131.ext he140
  replace hb_g132 := hb_g132.ext he140
  replace ho136 := Own.ext ho136 he140
  replace hb_g138 := hb_g138.ext he140
  replace hb_g139 := hb_g139.ext he140
  have hz_he140 := he140.size
  refine wl_gval (ov_not (b := true) rfl) rfl rfl rfl rfl rfl ?_
  refine wl_val (ov_pick_f rfl rfl) rfl rfl rfl ?_
  refine wl_val (ov_move rfl) rfl rfl rfl ?_
  refine wl_gstep (or_call0 cl34 rfl rfl (lall_ok _ _ _ _ _ [] (RdB.nil _ 0 0) 3 (by omega) (by first | omega | (simp; done)) _ _ _ _ _ _ _ _ [] (Rd.nil _ 0 0 _ none 0 (by decide)) (Rd.nil _ 0 0 _ none 0 (by decide)) (fun z hz => by cases hz) (by kernel_rfl))) rfl rfl rfl rfl rfl ?_
  rintro v w40 ⟨rfl, he144⟩
  replace hE := hE.tr he144
  replace hb_g1 := hb_g1.ext he144
  replace ho32 := Own.ext ho32 he144
  replace ho53 := Own.ext ho53 he144
  replace hr59 := hr59.ext he144
  replace ho78 := Own.ext ho78 he144
  replace ho89 := Own.ext ho89 he144
  replace ho111 := Own.ext ho111 he144
  replace hb112 := hb112.ext he144
  replace ho125 := Own.ext ho125 he144
  replace hr129 := hr129.ext he144
  replace hb_g131 := hb_g131.ext he144
  replace hb_g132 := hb_g132.ext he144
  replace ho136 := Own.ext ho136 he144
  replace hb_g138 := hb_g138.ext he144
  replace hb_g139 := hb_g139.ext he144
  have hz_he144 := he144.size
  refine wl_gval (ov_not (b := true) rfl) rfl rfl rfl rfl rfl ?_
  refine wl_val (ov_pick_f rfl rfl) rfl rfl rfl ?_
  refine q_nil ?_
  refine k_then ?_
  refine wc_cond_f rfl ?_
  refine q_skip ?_
  refine k_then ?_
  refine wc_seq ?_
  refine wc_regionL ?_
  refine wl_step (or_call0 cl32 rfl rfl (dAll_bad _ _ _ [] (-1) (by omega))) rfl rfl rfl ?_
  rintro v w41 ⟨rfl, he148⟩
  replace hE := hE.tr he148
  replace hb_g1 := hb_g1.ext he148
  replace ho32 := Own.ext ho32 he148
  replace ho53 := Own.ext ho53 he148
  replace hr59 := hr59.ext he148
  replace ho78 := Own.ext ho78 he148
  replace ho89 := Own.ext ho89 he148
  replace ho111 := Own.ext ho111 he148
  replace hb112 := hb112.ext he148
  replace ho125 := Own.ext ho125 he148
  replace hr129 := hr129.ext he148
  replace hb_g131 := hb_g131.ext he148
  replace hb_g132 := hb_g132.ext he148
  replace ho136 := Own.ext ho136 he148
  replace hb_g138 := hb_g138.ext he148
  replace hb_g139 := hb_g139.ext he148
  have hz_he148 := he148.size
  refine wl_val (ov_move rfl) rfl rfl rfl ?_
  refine wl_val (ov_extract rfl rfl) rfl rfl rfl ?_
  refine wl_val (ov_extract rfl rfl) rfl rfl rfl ?_
  refine wl_val (ov_extract rfl rfl) rfl rfl rfl ?_
  refine wl_val (ov_assign rfl) rfl rfl rfl ?_
  refine wl_val (ov_assign rfl) rfl rfl rfl ?_
  refine wl_val (ov_assign rfl) rfl rfl rfl ?_
  refine q_nil ?_
  refine k_then ?_
  refine wc_seq ?_
  refine wc_regionL ?_
  refine wl_step (or_call0 cl35 rfl rfl (dnew_bad _ 2097153 (by omega))) rfl rfl rfl ?_
  rintro v w42 ⟨rfl, he153⟩
  replace hE := hE.tr he153
  replace hb_g1 := hb_g1.ext he153
  replace ho32 := Own.ext ho32 he153
  replace ho53 := Own.ext ho53 he153
  replace hr59 := hr59.ext he153
  replace ho78 := Own.ext ho78 he153
  replace ho89 := Own.ext ho89 he153
  replace ho111 := Own.ext ho111 he153
  replace hb112 := hb112.ext he153
  replace ho125 := Own.ext ho125 he153
  replace hr129 := hr129.ext he153
  replace hb_g131 := hb_g131.ext he153
  replace hb_g132 := hb_g132.ext he153
  replace ho136 := Own.ext ho136 he153
  replace hb_g138 := hb_g138.ext he153
  replace hb_g139 := hb_g139.ext he153
  have hz_he153 := he153.size
  refine wl_val (ov_move rfl) rfl rfl rfl ?_
  refine wl_val (ov_extract rfl rfl) rfl rfl rfl ?_
  refine wl_val (ov_extract rfl rfl) rfl rfl rfl ?_
  refine wl_val (ov_assign rfl) rfl rfl rfl ?_
  refine wl_val (ov_assign rfl) rfl rfl rfl ?_
  refine q_nil ?_
  refine k_then ?_
  refine wc_seq ?_
  refine wc_regionL ?_
  refine wl_val (ov_move rfl) rfl rfl rfl ?_
  refine wl_val (ov_len Try.underlying60 rfl) rfl rfl rfl ?_
  refine wl_val (ov_eql rfl rfl) rfl rfl rfl ?_
  refine wl_val (ov_move rfl) rfl rfl rfl ?_
  refine wl_gval (ov_move rfl) rfl rfl rfl rfl rfl ?_
  refine wl_gval (ov_len Try.underlying61 rfl) rfl rfl rfl rfl rfl ?_
  refine wl_gval (ov_eql rfl rfl) rfl rfl rfl rfl rfl ?_
  refine wl_val (ov_pick_t rfl rfl) rfl rfl rfl ?_
  refine wl_val (ov_move rfl) rfl rfl rfl ?_
  refine wl_gval (ov_move rfl) rfl rfl rfl rfl rfl ?_
  refine wl_gval (ov_eql rfl rfl) rfl rfl rfl rfl rfl ?_
  refine wl_val (ov_pick_t rfl rfl) rfl rfl rfl ?_
  refine wl_val (ov_move rfl) rfl rfl rfl ?_
  refine wl_gval (ov_move rfl) rfl rfl rfl rfl rfl ?_
  refine wl_gval (ov_nilptr Try.underlying68 rfl) rfl rfl rfl rfl rfl ?_
  refine wl_val (ov_pick_t rfl rfl) rfl rfl rfl ?_
  refine wl_val (ov_move rfl) rfl rfl rfl ?_
  refine wl_gval (ov_move rfl) rfl rfl rfl rfl rfl ?_
  refine wl_gval (ov_eql rfl rfl) rfl rfl rfl rfl rfl ?_
  refine wl_val (ov_pick_t rfl rfl) rfl rfl rfl ?_
  refine wl_val (ov_assign rfl) rfl rfl rfl ?_
  refine q_nil ?_
  refine k_then ?_
  refine q_ret ?_
  refine e_ret rfl rfl ?_
  exact ⟨rfl, hE⟩

end Go.Proofs.Ytopfjpkjpmdhaaa
