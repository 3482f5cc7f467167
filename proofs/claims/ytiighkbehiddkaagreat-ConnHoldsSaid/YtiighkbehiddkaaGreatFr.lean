/-
 The contracts of the frame functions and of their reference.
-/
import Derived.Test.YtiighkbehiddkaaGreatVi
import Derived.Test.YtiighkbehiddkaaGreatRes
import Derived.Test.YtiighkbehiddkaaGreatBel
import Derived.Test.YtiighkbehiddkaaGreatFrame
namespace Go.Proofs.YtiighkbehiddkaaGreat
open Go.RowKit
set_option linter.unusedVariables false
set_option maxRecDepth 4000
theorem ag117_2 : aggTy Tryz.prog 117 2 = true := by kernel_rfl
theorem cl95 : callable Tryz.prog 95 = true := by kernel_rfl
theorem fo117_0 : fieldOff Tryz.prog 117 0 = some 0 := by kernel_rfl
theorem fo117_1 : fieldOff Tryz.prog 117 1 = some 1 := by kernel_rfl
theorem mixed : Tryz.prog.follows .mixedOrders = true := by kernel_rfl
theorem oc32 : oneCellTy Tryz.prog 32 = true := by kernel_rfl
theorem pl117 : placesOf Tryz.prog 117 = some [(0, 1), (1, 1)] := by kernel_rfl
theorem sz117 : (Tryz.prog.info? 117).map (·.size) = some 2 := by kernel_rfl
theorem ze117 : zeroOf Tryz.prog 117 = some (.agg #[(.int .u8 0), (.slice none 0 0)]) := by kernel_rfl
/-- What a call of Write leaves. -/
def FWrite (w : World) (x : UInt8) (p : List UInt8) (v : Value) (w' : World) : Prop :=
 ∃ A c, v = .tuple #[.slice A (fwrite x p).1.length c, .int .i64 ((fwrite x p).2 : Int)] ∧ OwnB w' w.heap.size 5 A c (fwrite x p).1 ∧ Ext w w'
theorem fwrite_mk {w w' : World} {x : UInt8} {p b : List UInt8} {e : Nat} (h : fwrite x p = (b, e)) {A : Option Addr} {c : Nat} (ho : OwnB w' w.heap.size 5 A c b) (hE : Ext w w') : FWrite w x p (.tuple #[.slice A b.length c, .int .i64 (e : Int)]) w' := by
 unfold FWrite; rw [h]; exact ⟨A, c, rfl, ho, hE⟩
/-- What a call of Read leaves. -/
def FRead (w : World) (l : List UInt8) (most : Int) (v : Value) (w' : World) : Prop :=
 ∃ A c, v = .tuple #[.agg #[.int .u8 ((fread l most).1.1.toNat : Int), .slice A (fread l most).1.2.length c], .int .i64 ((fread l most).2.1 : Int), .int .i64 ((fread l most).2.2 : Int)] ∧ OwnB w' w.heap.size 5 A c (fread l most).1.2 ∧ Ext w w'
theorem fread_mk {w w' : World} {l : List UInt8} {most : Int} {x : UInt8} {p : List UInt8} {s e : Nat} (h : fread l most = ((x, p), s, e)) {A : Option Addr} {c : Nat} (ho : OwnB w' w.heap.size 5 A c p) (hE : Ext w w') :
  FRead w l most (.tuple #[.agg #[.int .u8 (x.toNat : Int), .slice A p.length c], .int .i64 (s : Int), .int .i64 (e : Int)]) w' := by
 unfold FRead; rw [h]; exact ⟨A, c, rfl, ho, hE⟩
theorem flength_any (w : World) (x : UInt8) (A : Option Addr) (c : Nat) (p : List UInt8) (hp : p.length ≤ 140737488355328) :
  Fn Tryz.prog 95 #[(.agg #[(.int .u8 (↑x.toNat : Int)), (.slice A p.length c)])] w (fun v w' => v = .tuple #[.int .i64 ((flen p).1 : Int), .int .i64 ((flen p).2 : Int)] ∧ Ext w w')  := by
 have hE := ext_refl w
 have hfl := flen_cases p
 refine fn_enter (args := [(.agg #[(.int .u8 (↑x.toNat : Int)), (.slice A p.length c)])]) Tryz.func95 rfl rfl rfl ?_
 show WC _ _ _ _ [(0, (.agg #[(.int .u8 (↑x.toNat : Int)), (.slice A p.length c)]))] _
 refine wc_seq (wc_regionL ?_)
 refine wl_step (or_box (cs := [(.int .u8 (↑x.toNat : Int)), (.slice A p.length c)]) rfl rfl) rfl rfl rfl ?_
 rintro v w1 ⟨g1, rfl, hb_g1, he1, hl1, hu1⟩
 replace hE := hE.tr he1
 have hz_he1 := he1.size
 iterate 2 refine va rfl rfl ?_
 refine q_nil (k_then (wc_seq (wc_seq (wc_regionL ?_))))
 refine wl_val (ov_field0 (off := 1) fo117_1 rfl) rfl rfl rfl ?_
 refine wl_val (ov_loadAt oc32 rfl hb_g1 rfl) rfl rfl rfl ?_
 refine wl_val (ov_len Tryz.underlying32 rfl) rfl rfl rfl ?_
 refine wl_val (ov_gtr rfl rfl) rfl rfl rfl ?_
 refine q_nil (k_then ?_)
 refine wc_cond_d rfl (fun hc1 => ?_) (fun hc1 => ?_)
 ·refine wc_seq (wc_regionL ?_)
  iterate 2 refine va rfl rfl ?_
  refine q_nil (k_then (q_ret (k_thenR ?_)))
  refine e_ret2 rfl rfl rfl ?_
  exact ⟨by rw [show (flen p).1 = 0 by omega, show (flen p).2 = 5 by omega]; rfl, hE⟩
 ·refine q_skip (k_then (wc_seq (wc_regionL ?_)))
  refine wl_val (ov_field0 (off := 1) fo117_1 rfl) rfl rfl rfl ?_
  refine wl_val (ov_loadAt oc32 rfl hb_g1 rfl) rfl rfl rfl ?_
  refine wl_val (ov_len Tryz.underlying32 rfl) rfl rfl rfl ?_
  refine wl_val (ov_add rfl rfl (wi64 (by omega) (by omega))) rfl rfl rfl ?_
  iterate 2 refine va rfl rfl ?_
  refine q_nil (k_then (q_ret ?_))
  refine e_ret2 rfl rfl rfl ?_
  exact ⟨by rw [show (flen p).1 = p.length + 1 by omega, show (flen p).2 = 0 by omega]; rfl, hE⟩
theorem fwrite_any (w : World) (lo hi : Nat) (x : UInt8) (A : Option Addr) (c : Nat) (p : List UInt8) (hr : RdB w lo hi A c p) (hp : p.length ≤ 140737488355328) :
  Fn Tryz.prog 75 #[(.agg #[(.int .u8 (↑x.toNat : Int)), (.slice A p.length c)])] w (FWrite w x p)  := by
 replace hr := hr.top
 have hE := ext_refl w
 refine fn_enter (args := [(.agg #[(.int .u8 (↑x.toNat : Int)), (.slice A p.length c)])]) Tryz.func75 rfl rfl rfl ?_
 show WC _ _ _ _ [(0, (.agg #[(.int .u8 (↑x.toNat : Int)), (.slice A p.length c)]))] _
 refine wc_seq (wc_regionL ?_)
 refine wl_step (or_box (cs := [(.int .u8 (↑x.toNat : Int)), (.slice A p.length c)]) rfl rfl) rfl rfl rfl ?_
 rintro v w1 ⟨g1, rfl, hb_g1, he1, hl1, hu1⟩
 replace hr := hr.ext he1
 replace hE := hE.tr he1
 have hz_he1 := he1.size
 iterate 2 refine va rfl rfl ?_
 refine q_nil (k_then (wc_seq (wc_regionL ?_)))
 refine wl_val (ov_loadBlk (cs := [(.int .u8 (↑x.toNat : Int)), (.slice A p.length c)]) ag117_2 rfl hb_g1) rfl rfl rfl ?_
 refine wl_step (or_call0 cl95 rfl rfl (flength_any _ x _ _ p (by omega))) rfl rfl rfl ?_
 rintro v w2 ⟨rfl, he8⟩
 replace hr := hr.ext he8
 replace hE := hE.tr he8
 replace hb_g1 := hb_g1.ext he8
 have hz_he8 := he8.size
 have hfl := flen_cases p
 refine vm rfl rfl ?_
 iterate 2 refine vx rfl rfl rfl ?_
 iterate 2 refine va rfl rfl ?_
 refine q_nil (k_then (wc_seq (wc_seq (wc_regionL ?_))))
 refine vm rfl rfl ?_
 refine wl_val (ov_neq rfl rfl) rfl rfl rfl ?_
 refine q_nil (k_then ?_)
 refine wc_cond_d rfl (fun hc1 => ?_) (fun hc1 => ?_)
 ·refine wc_seq (wc_regionL ?_)
  refine vm rfl rfl ?_
  iterate 2 refine va rfl rfl ?_
  refine q_nil (k_then (q_ret (k_thenR ?_)))
  refine e_ret2 rfl rfl rfl ?_
  exact fwrite_mk (fwrite_bad (by omega)) (Own.nil_ _ _ _ _) hE
 ·have hel := enc_len (flen p).1
  refine q_skip (k_then (wc_seq ?_))
  refine wc_drawA mixed ?_
  intro w203 hx4
  replace hr := hr.ext hx4
  replace hE := hE.tr hx4
  replace hb_g1 := hb_g1.ext hx4
  have hz_hx4 := hx4.size
  refine wa_main (Fam (Bel w203.heap.size)) (fam1 (bel_ext)) (fam2 (bel_tr)) (fam3 (bel_ext) (bel_tr)) 0 9 [(14, eqv (.int .i64 (↑(flen p).1 : Int))), (15, eqv (.int .u64 (↑(flen p).1 : Int))), (16, isOwnB w203.heap.size 5 ([] ++ enc ((flen p).1))), (17, eqv (.pointer (some ⟨g1, 0, none⟩))), (18, eqv (.int .u8 (↑x.toNat : Int))), (19, isOwnB w203.heap.size 5 [x]), (20, isOwnB w203.heap.size 5 (([] ++ enc ((flen p).1)) ++ [x])), (21, eqv (.pointer (some ⟨g1, 1, none⟩))), (22, eqv (.slice A p.length c))] [[], [0], [1], [], [3], [4], [2, 5], [], [7]] [[0], [0], [], [0], [0], [], [], [0], [0]] [[0], [0], [0], [0], [0], [0], [0], [0], [0]] [none, none, none, none, none, none, some 0, none, none] [true, true, false, true, true, false, true, true, true] [0] _ [] [] (fun _ _ h => h) trivial (by kernel_rfl) rfl ⟨stbA (fun _ => stb_eqv _) _, stbA (fun _ => stb_eqv _) _, stb0 (stb_isOwnB _ _ _), stbA (fun _ => stb_eqv _) _, stbA (fun _ => stb_eqv _) _, stb0 (stb_isOwnB _ _ _), stb0 (stb_isOwnB _ _ _), stbA (fun _ => stb_eqv _) _, stbA (fun _ => stb_eqv _) _, trivial⟩ ⟨?_, ?_, ?_, ?_, ?_, ?_, ?_, ?_, ?_, trivial⟩ ?_
  ·intro wd hxE
   replace hxE := bel_out hxE
   have hz_hxE := hxE.size
   show OpG _ _ _ _ _ _
   exact og_plain rfl (ox_val (ov_move rfl))
  ·intro wd hxE
   replace hxE := bel_out hxE
   have hz_hxE := hxE.size
   rintro _ rfl
   show OpG _ _ _ _ _ _
   exact og_plain rfl (ox_val (ov_conv Tryz.underlying3 Tryz.underlying36 rfl (wu64 (by omega) (by omega))))
  ·intro wd hxE
   replace hxE := bel_out hxE
   have hz_hxE := hxE.size
   rintro _ rfl
   show OpG _ _ _ _ _ _
   refine og_plain rfl (OpRun.mono (or_call0 cl92 rfl rfl (put_any _ _ _ _ _ [] ((flen p).1) (RdB.nil _ 0 0) (by simp) (by omega))) ?_)
   rintro v w204 ⟨A16, c16, rfl, ho16, he16⟩
   have hz_he16 := he16.size
   exact ⟨⟨A16, c16, rfl, Own.mono ho16 (by omega)⟩, he16⟩
  ·intro wd hxE
   replace hxE := bel_out hxE
   have hz_hxE := hxE.size
   show OpG _ _ _ _ _ _
   exact og_plain rfl (ox_val (ov_field0 (off := 0) fo117_0 rfl))
  ·intro wd hxE
   replace hxE := bel_out hxE
   replace hb_g1 := hb_g1.ext hxE
   have hz_hxE := hxE.size
   rintro _ rfl
   show OpG _ _ _ _ _ _
   exact og_plain rfl (ox_val (ov_loadAt oc5 rfl hb_g1 rfl))
  ·intro wd hxE
   replace hxE := bel_out hxE
   have hz_hxE := hxE.size
   rintro _ rfl
   show OpG _ _ _ _ _ _
   refine og_plain rfl (OpRun.mono (or_buildBytes (l := [x]) bt32 (os := [.tmp 18]) rfl rfl rfl (by decide)) ?_)
   rintro v w204 ⟨A19, c19, rfl, ho19, he19⟩
   have hz_he19 := he19.size
   exact ⟨⟨A19, c19, rfl, Own.mono ho19 (by omega)⟩, he19⟩
  ·intro wd hxE
   replace hxE := bel_out hxE
   have hz_hxE := hxE.size
   rintro _ ⟨A16, c16, rfl, ho16⟩
   rintro _ ⟨A19, c19, rfl, ho19⟩
   show OpG _ _ _ _ _ _
   refine og_plain rfl (OpRun.mono (or_bappend bt32 rfl ho16 rfl (OwnB.rd ho19) (by simp; omega) (by omega)) ?_)
   rintro v w204 ⟨A20, c20, rfl, ho20, hg20, ha20⟩
   have hq20 := fun g e => Own.lt ho16 (g := g) e
   have hz_hg20 := hg20.size
   exact ⟨⟨A20, c20, rfl, Own.mono ho20 (by omega)⟩, bel_gr hg20 (fun g e => (hq20 g e).1)⟩
  ·intro wd hxE
   replace hxE := bel_out hxE
   have hz_hxE := hxE.size
   show OpG _ _ _ _ _ _
   exact og_plain rfl (ox_val (ov_field0 (off := 1) fo117_1 rfl))
  ·intro wd hxE
   replace hxE := bel_out hxE
   replace hb_g1 := hb_g1.ext hxE
   have hz_hxE := hxE.size
   rintro _ rfl
   show OpG _ _ _ _ _ _
   exact og_plain rfl (ox_val (ov_loadAt oc32 rfl hb_g1 rfl))
  ·intro wf4 hf4
   replace hf4 := bel_out hf4
   replace hr := hr.ext hf4
   replace hE := hE.tr hf4
   have hz_hf4 := hf4.size
   rintro _ rfl
   rintro _ rfl
   intro v16
   rintro _ rfl
   rintro _ rfl
   intro v19
   rintro _ ⟨A20, c20, rfl, ho20⟩
   rintro _ rfl
   rintro _ rfl
   refine wa_tail (by kernel_rfl) ?_
   show WL _ _ _ [_, _, _] _ _ _
   refine wl_step (or_bappend bt32 rfl ho20 rfl hr (by simp; omega) (by omega)) rfl rfl rfl ?_
   rintro v w204 ⟨A23, c23, rfl, ho23, hg23, ha23⟩
   have hq23 := fun g e => Own.lt ho20 (g := g) e
   have hz_hg23 := hg23.size
   replace hE := hE.gr hg23 (fun g e => by have := hq23 g e; omega)
   iterate 2 refine va rfl rfl ?_
   refine q_nil (k_then (q_ret ?_))
   refine e_ret2 rfl rfl rfl ?_
   exact fwrite_mk (e := 0) (fwrite_ok (by omega)) (Own.mono ho23 (by omega)) hE
theorem rfwrite_any (w : World) (lo hi : Nat) (x : UInt8) (A : Option Addr) (c : Nat) (p : List UInt8) (hr : RdB w lo hi A c p) (hp : p.length ≤ 140737488355328) :
  Fn Tryz.prog 58 #[(.agg #[(.int .u8 (↑x.toNat : Int)), (.slice A p.length c)])] w (FWrite w x p)  := by
 replace hr := hr.top
 have hE := ext_refl w
 have hfl := flen_cases p
 refine fn_enter (args := [(.agg #[(.int .u8 (↑x.toNat : Int)), (.slice A p.length c)])]) Tryz.func58 rfl rfl rfl ?_
 show WC _ _ _ _ [(0, (.agg #[(.int .u8 (↑x.toNat : Int)), (.slice A p.length c)]))] _
 refine wc_seq (wc_regionL ?_)
 refine wl_step (or_box (cs := [(.int .u8 (↑x.toNat : Int)), (.slice A p.length c)]) rfl rfl) rfl rfl rfl ?_
 rintro v w1 ⟨g1, rfl, hb_g1, he1, hl1, hu1⟩
 replace hr := hr.ext he1
 replace hE := hE.tr he1
 have hz_he1 := he1.size
 iterate 2 refine va rfl rfl ?_
 refine q_nil (k_then (wc_seq (wc_seq (wc_regionL ?_))))
 refine wl_val (ov_field0 (off := 1) fo117_1 rfl) rfl rfl rfl ?_
 refine wl_val (ov_loadAt oc32 rfl hb_g1 rfl) rfl rfl rfl ?_
 refine wl_val (ov_len Tryz.underlying32 rfl) rfl rfl rfl ?_
 refine wl_val (ov_gtr rfl rfl) rfl rfl rfl ?_
 refine q_nil (k_then ?_)
 refine wc_cond_d rfl (fun hc1 => ?_) (fun hc1 => ?_)
 ·refine wc_seq (wc_regionL ?_)
  iterate 2 refine va rfl rfl ?_
  refine q_nil (k_then (q_ret (k_thenR ?_)))
  refine e_ret2 rfl rfl rfl ?_
  exact fwrite_mk (e := 5) (fwrite_long (by omega)) (Own.nil_ _ _ _ _) hE
 ·refine q_skip (k_then (wc_seq (wc_regionL ?_)))
  refine wl_val (ov_field0 (off := 1) fo117_1 rfl) rfl rfl rfl ?_
  refine wl_val (ov_loadAt oc32 rfl hb_g1 rfl) rfl rfl rfl ?_
  refine wl_val (ov_len Tryz.underlying32 rfl) rfl rfl rfl ?_
  refine wl_val (ov_conv Tryz.underlying3 Tryz.underlying36 rfl (wu64 (by omega) (by omega))) rfl rfl rfl ?_
  refine wl_val (ov_add rfl rfl (wu64 (by omega) (by omega))) rfl rfl rfl ?_
  refine wl_step (or_call0 cl77 rfl rfl (rput_any ((p.length + 1)) _ (by omega))) rfl rfl rfl ?_
  rintro v w202 ⟨A14, c14, rfl, ho14, he14⟩
  replace hr := hr.ext he14
  replace hE := hE.tr he14
  replace hb_g1 := hb_g1.ext he14
  have hz_he14 := he14.size
  have hel := enc_len (p.length + 1)
  refine va rfl rfl ?_
  refine q_nil (k_then (wc_seq (wc_regionL ?_)))
  refine vm rfl rfl ?_
  refine wl_val (ov_field0 (off := 0) fo117_0 rfl) rfl rfl rfl ?_
  refine wl_val (ov_loadAt oc5 rfl hb_g1 rfl) rfl rfl rfl ?_
  refine wl_step (or_buildBytes (l := [x]) bt32 (os := [.tmp 17]) rfl rfl rfl (by decide)) rfl rfl rfl ?_
  rintro v w203 ⟨A18, c18, rfl, ho18, he18⟩
  replace hr := hr.ext he18
  replace hE := hE.tr he18
  replace hb_g1 := hb_g1.ext he18
  replace ho14 := Own.ext ho14 he18
  have hz_he18 := he18.size
  refine wl_step (or_bappend bt32 rfl ho14 rfl (OwnB.rd ho18) (by simp; omega) (by omega)) rfl rfl rfl ?_
  rintro v w204 ⟨A19, c19, rfl, ho19, hg19, ha19⟩
  have hq19 := fun g e => Own.lt ho14 (g := g) e
  have hz_hg19 := hg19.size
  replace hr := hr.gr hg19 (fun g e => by have := hq19 g e; omega)
  replace hE := hE.gr hg19 (fun g e => by have := hq19 g e; omega)
  replace hb_g1 := hb_g1.gr hg19 (by first | (intro e; have := hq19 _ e; omega) | exact own_blk_ne ho14 hb_g1 (by decide))
  refine va rfl rfl ?_
  refine q_nil (k_then (wc_seq (wc_regionL ?_)))
  refine vm rfl rfl ?_
  refine wl_val (ov_field0 (off := 1) fo117_1 rfl) rfl rfl rfl ?_
  refine wl_val (ov_loadAt oc32 rfl hb_g1 rfl) rfl rfl rfl ?_
  refine wl_step (or_bappend bt32 rfl ho19 rfl hr (by simp; omega) (by omega)) rfl rfl rfl ?_
  rintro v w205 ⟨A23, c23, rfl, ho23, hg23, ha23⟩
  have hq23 := fun g e => Own.lt ho19 (g := g) e
  have hz_hg23 := hg23.size
  replace hE := hE.gr hg23 (fun g e => by have := hq23 g e; omega)
  iterate 2 refine va rfl rfl ?_
  refine q_nil (k_then (q_ret ?_))
  refine e_ret2 rfl rfl rfl ?_
  exact fwrite_mk (e := 0) (fwrite_short (by omega)) (Own.mono ho23 (by omega)) hE
theorem fread_any (w : World) (lo hi : Nat) (A : Option Addr) (c : Nat) (l : List UInt8) (most : Int) (hm1 : -9223372036854775808 ≤ most) (hm : most ≤ 9223372036854775807) (hr : RdB w lo hi A c l) (hlen : l.length ≤ 140737488355328) :
  Fn Tryz.prog 85 #[(.slice A l.length c), (.int .i64 most)] w (FRead w l most)  := by
 replace hr := hr.top
 have hcap := RdB.cap hr
 have hE := ext_refl w
 have hn := vget_lt l
 have hs := vget_size l
 have hbad := vget_bad l
 refine fn_enter (args := [(.slice A l.length c), (.int .i64 most)]) Tryz.func85 rfl rfl rfl ?_
 show WC _ _ _ _ [(0, (.slice A l.length c)), (1, (.int .i64 most))] _
 refine wc_seq (wc_regionL ?_)
 refine wl_step (or_alloc (cs := [(.int .u8 0), (.slice none 0 0)]) ze117 rfl) rfl rfl rfl ?_
 rintro v w1 ⟨g4, rfl, hb_g4, he4, hl4, hu4⟩
 replace hr := hr.ext he4
 replace hE := hE.tr he4
 have hz_he4 := he4.size
 iterate 2 refine va rfl rfl ?_
 refine q_nil (k_then (wc_seq (wc_seq (wc_regionL ?_))))
 refine vm rfl rfl ?_
 refine wl_val (ov_lss rfl rfl) rfl rfl rfl ?_
 refine wl_case_d (d := 11) rfl (fun h11 => ?_) (fun h11 => ?_)
 ·refine vm rfl rfl ?_
  iterate 2 refine wl_gskip rfl rfl rfl rfl rfl rfl ?_
  refine wl_val (ov_pick_t rfl rfl) rfl rfl rfl ?_
  refine q_nil (k_then ?_)
  refine wc_cond_t rfl ?_
  refine wc_seq (wc_regionL ?_)
  refine wl_val (ov_build (cs := [(.int .u8 0), (.slice none 0 0)]) ze117 pl117 rfl rfl) rfl rfl rfl ?_
  refine wl_step0 (or_storeBlk (vs := [(.int .u8 0), (.slice none 0 0)]) sz117 rfl rfl (by simp [Value.oneCell']) hb_g4 rfl) rfl rfl ?_
  rintro _ w2 ⟨hN2, hg2⟩
  have hz_hg2 := hg2.size
  replace hE := hE.gr hg2 (fun _ e => by cases e; omega)
  replace hb_g4 := hN2
  iterate 2 refine va rfl rfl ?_
  refine q_nil (k_then (q_ret (k_thenR ?_)))
  refine e_retL (rs := [.cell 4 117, .tmp 5, .tmp 6]) (vs := [.agg #[(.int .u8 0), (.slice none 0 0)], (.int .i64 0), (.int .i64 2)]) rfl ⟨⟨_, _, [(.int .u8 0), (.slice none 0 0)], rfl, ag117_2, hb_g4, rfl⟩, rfl, rfl, trivial⟩ ?_
  first
   | exact fread_mk (x := 0) (p := []) (s := 0) (e := 2) (fread_arg (by omega)) (Own.nil_ _ _ _ _) hE
   | exact fread_mk (x := 0) (p := []) (s := 0) (e := 5) (fread_long (by omega) (by omega) (by omega)) (Own.nil_ _ _ _ _) hE
   | exact fread_mk (x := 0) (p := []) (s := 0) (e := 6) (fread_fmt (by omega) (by omega) (by omega)) (Own.nil_ _ _ _ _) hE
   | exact fread_mk (x := 0) (p := []) (s := 0) (e := 4) (fread_short (by omega) (by omega) (by omega) (by omega) (by omega)) (Own.nil_ _ _ _ _) hE
   | exact fread_mk (x := 0) (p := []) (s := 0) (e := 4) (fread_short0 (by omega) (by omega)) (Own.nil_ _ _ _ _) hE
   | (rw [show (((vget l).2.2 : Nat) : Int) = 4 by omega]; exact fread_mk (x := 0) (p := []) (s := 0) (e := 4) (fread_short0 (by omega) (by omega)) (Own.nil_ _ _ _ _) hE)
   | exact fread_mk (s := (vget l).2.1 + (vget l).1) (e := 0) (fread_ok (by omega) (by omega) (by omega) (by omega) (by omega)) (Own.mono ho65 (by omega)) hE
 ·refine vm rfl rfl ?_
  refine wl_gval (ov_move rfl) rfl rfl rfl rfl rfl ?_
  refine wl_gval (ov_gtr rfl rfl) rfl rfl rfl rfl rfl ?_
  refine wl_val (ov_pick_f rfl rfl) rfl rfl rfl ?_
  refine q_nil (k_then ?_)
  refine wc_cond_d rfl (fun hc1 => ?_) (fun hc1 => ?_)
  ·refine wc_seq (wc_regionL ?_)
   refine wl_val (ov_build (cs := [(.int .u8 0), (.slice none 0 0)]) ze117 pl117 rfl rfl) rfl rfl rfl ?_
   refine wl_step0 (or_storeBlk (vs := [(.int .u8 0), (.slice none 0 0)]) sz117 rfl rfl (by simp [Value.oneCell']) hb_g4 rfl) rfl rfl ?_
   rintro _ w202 ⟨hN202, hg202⟩
   have hz_hg202 := hg202.size
   replace hE := hE.gr hg202 (fun _ e => by cases e; omega)
   replace hb_g4 := hN202
   iterate 2 refine va rfl rfl ?_
   refine q_nil (k_then (q_ret (k_thenR ?_)))
   refine e_retL (rs := [.cell 4 117, .tmp 5, .tmp 6]) (vs := [.agg #[(.int .u8 0), (.slice none 0 0)], (.int .i64 0), (.int .i64 2)]) rfl ⟨⟨_, _, [(.int .u8 0), (.slice none 0 0)], rfl, ag117_2, hb_g4, rfl⟩, rfl, rfl, trivial⟩ ?_
   first
    | exact fread_mk (x := 0) (p := []) (s := 0) (e := 2) (fread_arg (by omega)) (Own.nil_ _ _ _ _) hE
    | exact fread_mk (x := 0) (p := []) (s := 0) (e := 5) (fread_long (by omega) (by omega) (by omega)) (Own.nil_ _ _ _ _) hE
    | exact fread_mk (x := 0) (p := []) (s := 0) (e := 6) (fread_fmt (by omega) (by omega) (by omega)) (Own.nil_ _ _ _ _) hE
    | exact fread_mk (x := 0) (p := []) (s := 0) (e := 4) (fread_short (by omega) (by omega) (by omega) (by omega) (by omega)) (Own.nil_ _ _ _ _) hE
    | exact fread_mk (x := 0) (p := []) (s := 0) (e := 4) (fread_short0 (by omega) (by omega)) (Own.nil_ _ _ _ _) hE
    | (rw [show (((vget l).2.2 : Nat) : Int) = 4 by omega]; exact fread_mk (x := 0) (p := []) (s := 0) (e := 4) (fread_short0 (by omega) (by omega)) (Own.nil_ _ _ _ _) hE)
    | exact fread_mk (s := (vget l).2.1 + (vget l).1) (e := 0) (fread_ok (by omega) (by omega) (by omega) (by omega) (by omega)) (Own.mono ho65 (by omega)) hE
  ·refine q_skip (k_then (wc_seq (wc_regionL ?_)))
   refine vm rfl rfl ?_
   refine wl_val (or_call0 cl102 rfl rfl (get_any _ _ _ _ _ l hr)) rfl rfl rfl ?_
   refine vm rfl rfl ?_
   iterate 3 refine vx rfl rfl rfl ?_
   iterate 3 refine va rfl rfl ?_
   refine q_nil (k_then (wc_seq (wc_block (wc_seq (wc_regionL ?_)))))
   refine vm rfl rfl ?_
   refine ve rfl rfl rfl ?_
   refine va rfl rfl ?_
   refine q_nil (k_then ?_)
   refine wc_cond_d rfl (fun hc2 => ?_) (fun hc2 => ?_)
   ·refine wc_seq (wc_regionL ?_)
    refine wl_val (ov_build (cs := [(.int .u8 0), (.slice none 0 0)]) ze117 pl117 rfl rfl) rfl rfl rfl ?_
    refine vm rfl rfl ?_
    refine wl_step0 (or_storeBlk (vs := [(.int .u8 0), (.slice none 0 0)]) sz117 rfl rfl (by simp [Value.oneCell']) hb_g4 rfl) rfl rfl ?_
    rintro _ w202 ⟨hN202, hg202⟩
    have hz_hg202 := hg202.size
    replace hE := hE.gr hg202 (fun _ e => by cases e; omega)
    replace hb_g4 := hN202
    iterate 2 refine va rfl rfl ?_
    refine q_nil (k_then (q_ret (k_blockR (k_thenR ?_))))
    refine e_retL (rs := [.cell 4 117, .tmp 5, .tmp 6]) (vs := [.agg #[(.int .u8 0), (.slice none 0 0)], (.int .i64 0), (.int .i64 (↑(vget l).2.2 : Int))]) rfl ⟨⟨_, _, [(.int .u8 0), (.slice none 0 0)], rfl, ag117_2, hb_g4, rfl⟩, rfl, rfl, trivial⟩ ?_
    first
     | exact fread_mk (x := 0) (p := []) (s := 0) (e := 2) (fread_arg (by omega)) (Own.nil_ _ _ _ _) hE
     | exact fread_mk (x := 0) (p := []) (s := 0) (e := 5) (fread_long (by omega) (by omega) (by omega)) (Own.nil_ _ _ _ _) hE
     | exact fread_mk (x := 0) (p := []) (s := 0) (e := 6) (fread_fmt (by omega) (by omega) (by omega)) (Own.nil_ _ _ _ _) hE
     | exact fread_mk (x := 0) (p := []) (s := 0) (e := 4) (fread_short (by omega) (by omega) (by omega) (by omega) (by omega)) (Own.nil_ _ _ _ _) hE
     | exact fread_mk (x := 0) (p := []) (s := 0) (e := 4) (fread_short0 (by omega) (by omega)) (Own.nil_ _ _ _ _) hE
     | (rw [show (((vget l).2.2 : Nat) : Int) = 4 by omega]; exact fread_mk (x := 0) (p := []) (s := 0) (e := 4) (fread_short0 (by omega) (by omega)) (Own.nil_ _ _ _ _) hE)
     | exact fread_mk (s := (vget l).2.1 + (vget l).1) (e := 0) (fread_ok (by omega) (by omega) (by omega) (by omega) (by omega)) (Own.mono ho65 (by omega)) hE
   ·refine wc_seq (wc_regionL ?_)
    refine vm rfl rfl ?_
    refine wl_val (ov_neq rfl rfl) rfl rfl rfl ?_
    refine wl_case_d (d := 30) rfl (fun h30 => ?_) (fun h30 => ?_)
    ·refine vm rfl rfl ?_
     iterate 5 refine wl_gskip rfl rfl rfl rfl rfl rfl ?_
     refine wl_val (ov_pick_t rfl rfl) rfl rfl rfl ?_
     refine va rfl rfl ?_
     refine q_nil (k_then ?_)
     refine wc_cond_t rfl ?_
     refine wc_seq (wc_regionL ?_)
     refine wl_val (ov_build (cs := [(.int .u8 0), (.slice none 0 0)]) ze117 pl117 rfl rfl) rfl rfl rfl ?_
     refine wl_step0 (or_storeBlk (vs := [(.int .u8 0), (.slice none 0 0)]) sz117 rfl rfl (by simp [Value.oneCell']) hb_g4 rfl) rfl rfl ?_
     rintro _ w202 ⟨hN202, hg202⟩
     have hz_hg202 := hg202.size
     replace hE := hE.gr hg202 (fun _ e => by cases e; omega)
     replace hb_g4 := hN202
     iterate 2 refine va rfl rfl ?_
     refine q_nil (k_then (q_ret (k_blockR (k_thenR ?_))))
     refine e_retL (rs := [.cell 4 117, .tmp 5, .tmp 6]) (vs := [.agg #[(.int .u8 0), (.slice none 0 0)], (.int .i64 0), (.int .i64 5)]) rfl ⟨⟨_, _, [(.int .u8 0), (.slice none 0 0)], rfl, ag117_2, hb_g4, rfl⟩, rfl, rfl, trivial⟩ ?_
     first
      | exact fread_mk (x := 0) (p := []) (s := 0) (e := 2) (fread_arg (by omega)) (Own.nil_ _ _ _ _) hE
      | exact fread_mk (x := 0) (p := []) (s := 0) (e := 5) (fread_long (by omega) (by omega) (by omega)) (Own.nil_ _ _ _ _) hE
      | exact fread_mk (x := 0) (p := []) (s := 0) (e := 6) (fread_fmt (by omega) (by omega) (by omega)) (Own.nil_ _ _ _ _) hE
      | exact fread_mk (x := 0) (p := []) (s := 0) (e := 4) (fread_short (by omega) (by omega) (by omega) (by omega) (by omega)) (Own.nil_ _ _ _ _) hE
      | exact fread_mk (x := 0) (p := []) (s := 0) (e := 4) (fread_short0 (by omega) (by omega)) (Own.nil_ _ _ _ _) hE
      | (rw [show (((vget l).2.2 : Nat) : Int) = 4 by omega]; exact fread_mk (x := 0) (p := []) (s := 0) (e := 4) (fread_short0 (by omega) (by omega)) (Own.nil_ _ _ _ _) hE)
      | exact fread_mk (s := (vget l).2.1 + (vget l).1) (e := 0) (fread_ok (by omega) (by omega) (by omega) (by omega) (by omega)) (Own.mono ho65 (by omega)) hE
    ·refine vm rfl rfl ?_
     iterate 2 refine wl_gval (ov_move rfl) rfl rfl rfl rfl rfl ?_
     refine wl_gval (ov_add rfl rfl (wi64 (by omega) (by omega))) rfl rfl rfl rfl rfl ?_
     refine wl_gval (ov_conv Tryz.underlying3 Tryz.underlying36 rfl (wu64 (by omega) (by omega))) rfl rfl rfl rfl rfl ?_
     refine wl_gval (ov_gtr rfl rfl) rfl rfl rfl rfl rfl ?_
     refine wl_val (ov_pick_f rfl rfl) rfl rfl rfl ?_
     refine va rfl rfl ?_
     refine q_nil (k_then ?_)
     refine wc_cond_d rfl (fun hc3 => ?_) (fun hc3 => ?_)
     ·refine wc_seq (wc_regionL ?_)
      refine wl_val (ov_build (cs := [(.int .u8 0), (.slice none 0 0)]) ze117 pl117 rfl rfl) rfl rfl rfl ?_
      refine wl_step0 (or_storeBlk (vs := [(.int .u8 0), (.slice none 0 0)]) sz117 rfl rfl (by simp [Value.oneCell']) hb_g4 rfl) rfl rfl ?_
      rintro _ w202 ⟨hN202, hg202⟩
      have hz_hg202 := hg202.size
      replace hE := hE.gr hg202 (fun _ e => by cases e; omega)
      replace hb_g4 := hN202
      iterate 2 refine va rfl rfl ?_
      refine q_nil (k_then (q_ret (k_blockR (k_thenR ?_))))
      refine e_retL (rs := [.cell 4 117, .tmp 5, .tmp 6]) (vs := [.agg #[(.int .u8 0), (.slice none 0 0)], (.int .i64 0), (.int .i64 5)]) rfl ⟨⟨_, _, [(.int .u8 0), (.slice none 0 0)], rfl, ag117_2, hb_g4, rfl⟩, rfl, rfl, trivial⟩ ?_
      first
       | exact fread_mk (x := 0) (p := []) (s := 0) (e := 2) (fread_arg (by omega)) (Own.nil_ _ _ _ _) hE
       | exact fread_mk (x := 0) (p := []) (s := 0) (e := 5) (fread_long (by omega) (by omega) (by omega)) (Own.nil_ _ _ _ _) hE
       | exact fread_mk (x := 0) (p := []) (s := 0) (e := 6) (fread_fmt (by omega) (by omega) (by omega)) (Own.nil_ _ _ _ _) hE
       | exact fread_mk (x := 0) (p := []) (s := 0) (e := 4) (fread_short (by omega) (by omega) (by omega) (by omega) (by omega)) (Own.nil_ _ _ _ _) hE
       | exact fread_mk (x := 0) (p := []) (s := 0) (e := 4) (fread_short0 (by omega) (by omega)) (Own.nil_ _ _ _ _) hE
       | (rw [show (((vget l).2.2 : Nat) : Int) = 4 by omega]; exact fread_mk (x := 0) (p := []) (s := 0) (e := 4) (fread_short0 (by omega) (by omega)) (Own.nil_ _ _ _ _) hE)
       | exact fread_mk (s := (vget l).2.1 + (vget l).1) (e := 0) (fread_ok (by omega) (by omega) (by omega) (by omega) (by omega)) (Own.mono ho65 (by omega)) hE
     ·refine wc_seq (wc_regionL ?_)
      refine vm rfl rfl ?_
      refine ve rfl rfl rfl ?_
      refine va rfl rfl ?_
      refine q_nil (k_then ?_)
      refine wc_cond_d rfl (fun hc4 => ?_) (fun hc4 => ?_)
      ·refine wc_seq (wc_regionL ?_)
       refine wl_val (ov_build (cs := [(.int .u8 0), (.slice none 0 0)]) ze117 pl117 rfl rfl) rfl rfl rfl ?_
       refine wl_step0 (or_storeBlk (vs := [(.int .u8 0), (.slice none 0 0)]) sz117 rfl rfl (by simp [Value.oneCell']) hb_g4 rfl) rfl rfl ?_
       rintro _ w202 ⟨hN202, hg202⟩
       have hz_hg202 := hg202.size
       replace hE := hE.gr hg202 (fun _ e => by cases e; omega)
       replace hb_g4 := hN202
       iterate 2 refine va rfl rfl ?_
       refine q_nil (k_then (q_ret (k_blockR (k_thenR ?_))))
       refine e_retL (rs := [.cell 4 117, .tmp 5, .tmp 6]) (vs := [.agg #[(.int .u8 0), (.slice none 0 0)], (.int .i64 0), (.int .i64 6)]) rfl ⟨⟨_, _, [(.int .u8 0), (.slice none 0 0)], rfl, ag117_2, hb_g4, rfl⟩, rfl, rfl, trivial⟩ ?_
       first
        | exact fread_mk (x := 0) (p := []) (s := 0) (e := 2) (fread_arg (by omega)) (Own.nil_ _ _ _ _) hE
        | exact fread_mk (x := 0) (p := []) (s := 0) (e := 5) (fread_long (by omega) (by omega) (by omega)) (Own.nil_ _ _ _ _) hE
        | exact fread_mk (x := 0) (p := []) (s := 0) (e := 6) (fread_fmt (by omega) (by omega) (by omega)) (Own.nil_ _ _ _ _) hE
        | exact fread_mk (x := 0) (p := []) (s := 0) (e := 4) (fread_short (by omega) (by omega) (by omega) (by omega) (by omega)) (Own.nil_ _ _ _ _) hE
        | exact fread_mk (x := 0) (p := []) (s := 0) (e := 4) (fread_short0 (by omega) (by omega)) (Own.nil_ _ _ _ _) hE
        | (rw [show (((vget l).2.2 : Nat) : Int) = 4 by omega]; exact fread_mk (x := 0) (p := []) (s := 0) (e := 4) (fread_short0 (by omega) (by omega)) (Own.nil_ _ _ _ _) hE)
        | exact fread_mk (s := (vget l).2.1 + (vget l).1) (e := 0) (fread_ok (by omega) (by omega) (by omega) (by omega) (by omega)) (Own.mono ho65 (by omega)) hE
      ·refine wc_seq (wc_regionL ?_)
       iterate 2 refine vm rfl rfl ?_
       refine wl_val (ov_len Tryz.underlying32 rfl) rfl rfl rfl ?_
       refine vm rfl rfl ?_
       refine wl_val (ov_sub rfl rfl (wi64 (by omega) (by omega))) rfl rfl rfl ?_
       refine wl_val (ov_conv Tryz.underlying3 Tryz.underlying36 rfl (wu64 (by omega) (by omega))) rfl rfl rfl ?_
       refine wl_val (ov_gtr rfl rfl) rfl rfl rfl ?_
       refine va rfl rfl ?_
       refine q_nil (k_then ?_)
       refine wc_cond_d rfl (fun hc5 => ?_) (fun hc5 => ?_)
       ·refine wc_seq (wc_regionL ?_)
        refine wl_val (ov_build (cs := [(.int .u8 0), (.slice none 0 0)]) ze117 pl117 rfl rfl) rfl rfl rfl ?_
        refine wl_step0 (or_storeBlk (vs := [(.int .u8 0), (.slice none 0 0)]) sz117 rfl rfl (by simp [Value.oneCell']) hb_g4 rfl) rfl rfl ?_
        rintro _ w202 ⟨hN202, hg202⟩
        have hz_hg202 := hg202.size
        replace hE := hE.gr hg202 (fun _ e => by cases e; omega)
        replace hb_g4 := hN202
        iterate 2 refine va rfl rfl ?_
        refine q_nil (k_then (q_ret (k_blockR (k_thenR ?_))))
        refine e_retL (rs := [.cell 4 117, .tmp 5, .tmp 6]) (vs := [.agg #[(.int .u8 0), (.slice none 0 0)], (.int .i64 0), (.int .i64 4)]) rfl ⟨⟨_, _, [(.int .u8 0), (.slice none 0 0)], rfl, ag117_2, hb_g4, rfl⟩, rfl, rfl, trivial⟩ ?_
        first
         | exact fread_mk (x := 0) (p := []) (s := 0) (e := 2) (fread_arg (by omega)) (Own.nil_ _ _ _ _) hE
         | exact fread_mk (x := 0) (p := []) (s := 0) (e := 5) (fread_long (by omega) (by omega) (by omega)) (Own.nil_ _ _ _ _) hE
         | exact fread_mk (x := 0) (p := []) (s := 0) (e := 6) (fread_fmt (by omega) (by omega) (by omega)) (Own.nil_ _ _ _ _) hE
         | exact fread_mk (x := 0) (p := []) (s := 0) (e := 4) (fread_short (by omega) (by omega) (by omega) (by omega) (by omega)) (Own.nil_ _ _ _ _) hE
         | exact fread_mk (x := 0) (p := []) (s := 0) (e := 4) (fread_short0 (by omega) (by omega)) (Own.nil_ _ _ _ _) hE
         | (rw [show (((vget l).2.2 : Nat) : Int) = 4 by omega]; exact fread_mk (x := 0) (p := []) (s := 0) (e := 4) (fread_short0 (by omega) (by omega)) (Own.nil_ _ _ _ _) hE)
         | exact fread_mk (s := (vget l).2.1 + (vget l).1) (e := 0) (fread_ok (by omega) (by omega) (by omega) (by omega) (by omega)) (Own.mono ho65 (by omega)) hE
       ·have hn2 : (vget l).1 ≤ l.length := by omega
        refine q_skip (k_block (k_then (wc_seq (wc_regionL ?_))))
        iterate 2 refine vm rfl rfl ?_
        refine wl_val (ov_conv Tryz.underlying36 Tryz.underlying3 rfl (wi64 (by omega) (by omega))) rfl rfl rfl ?_
        refine wl_val (ov_add rfl rfl (wi64 (by omega) (by omega))) rfl rfl rfl ?_
        refine va rfl rfl ?_
        refine q_nil (k_then (wc_seq ?_))
        refine wc_drawA mixed ?_
        intro w202 hx13
        replace hr := hr.ext hx13
        replace hE := hE.tr hx13
        replace hb_g4 := hb_g4.ext hx13
        have hz_hx13 := hx13.size
        refine wa_main (Fam (BelS w202.heap.size [g4])) (fam1 (bels_ext)) (fam2 (bels_tr)) (fam3 (bels_ext) (bels_tr)) 0 13 [(56, eqv (.slice A l.length c)), (57, eqv (.int .i64 (↑(vget l).2.1 : Int))), (58, isCell (.int .u8 (↑(l.getD (vget l).2.1 0).toNat : Int))), (59, eqv (.int .u8 (↑(l.getD (vget l).2.1 0).toNat : Int))), (60, eqv (.slice A l.length c)), (61, eqv (.int .i64 (↑(vget l).2.1 : Int))), (62, eqv (.int .i64 ((↑(vget l).2.1 : Int) + 1))), (63, eqv (.int .i64 ((↑(vget l).2.1 : Int) + (↑(vget l).1 : Int)))), (64, isB 0 ((l.drop ((vget l).2.1 + 1)).take ((vget l).1 - 1))), (65, isOwnB w202.heap.size 5 ((l.drop ((vget l).2.1 + 1)).take ((vget l).1 - 1))), (66, (fun v w => ∃ A65 c65, v = (.agg #[(.int .u8 (↑(l.getD (vget l).2.1 0).toNat : Int)), (.slice A65 ((l.drop ((vget l).2.1 + 1)).take ((vget l).1 - 1)).length c65)]) ∧ OwnB w w202.heap.size 5 A65 c65 ((l.drop ((vget l).2.1 + 1)).take ((vget l).1 - 1)))), (67, eqv (.int .i64 ((↑(vget l).2.1 : Int) + (↑(vget l).1 : Int)))), (80, (fun _ w => ∃ A65 c65, Blk w g4 117 [(.int .u8 (↑(l.getD (vget l).2.1 0).toNat : Int)), (.slice A65 ((l.drop ((vget l).2.1 + 1)).take ((vget l).1 - 1)).length c65)] ∧ OwnB w w202.heap.size 5 A65 c65 ((l.drop ((vget l).2.1 + 1)).take ((vget l).1 - 1))))] [[], [], [0, 1], [2], [], [], [5], [], [4, 6, 7], [8], [3, 9], [], [10]] [[0], [0], [], [0], [0], [0], [0], [0], [], [], [], [0], []] [[0], [0], [0], [0], [0], [0], [0], [0], [0], [0], [0], [0], [0]] [none, none, none, none, none, none, none, none, none, none, none, none, some 0] [true, true, false, true, true, true, true, true, false, false, false, true, true] [0] _ [] [] (fun _ _ h => h) trivial (by kernel_rfl) rfl ⟨stbA (fun _ => stb_eqv _) _, stbA (fun _ => stb_eqv _) _, stb0 (stb_isCell _), stbA (fun _ => stb_eqv _) _, stbA (fun _ => stb_eqv _) _, stbA (fun _ => stb_eqv _) _, stbA (fun _ => stb_eqv _) _, stbA (fun _ => stb_eqv _) _, stb0 (stb_isB _ _), stb0 (stb_isOwnB _ _ _), stb0 ((fun v w w' ⟨A65, c65, hb, ho65⟩ he => ⟨A65, c65, hb, Own.ext ho65 he⟩)), stbA (fun _ => stb_eqv _) _, stb0 ((fun _ w w' ⟨A65, c65, hb, ho65⟩ he => ⟨A65, c65, hb.ext he, Own.ext ho65 he⟩)), trivial⟩ ⟨?_, ?_, ?_, ?_, ?_, ?_, ?_, ?_, ?_, ?_, ?_, ?_, ?_, trivial⟩ ?_
        ·intro wd hxE
         have hk_hxE := bels_out hxE
         obtain ⟨cs_g4, hcs_g4, hb_g4⟩ := bels_blk hxE (by simp) hb_g4
         have hz_hk_hxE := hk_hxE.size
         show OpG _ _ _ _ _ _
         exact og_plain rfl (ox_val (ov_move rfl))
        ·intro wd hxE
         have hk_hxE := bels_out hxE
         obtain ⟨cs_g4, hcs_g4, hb_g4⟩ := bels_blk hxE (by simp) hb_g4
         have hz_hk_hxE := hk_hxE.size
         show OpG _ _ _ _ _ _
         exact og_plain rfl (ox_val (ov_move rfl))
        ·intro wd hxE
         have hk_hxE := bels_out hxE
         obtain ⟨cs_g4, hcs_g4, hb_g4⟩ := bels_blk hxE (by simp) hb_g4
         have hz_hk_hxE := hk_hxE.size
         replace hr := hk_hxE.rd hr (by intro g hg; simp at hg; omega)
         rintro _ rfl
         rintro _ rfl
         show OpG _ _ _ _ _ _
         refine og_plain rfl (OpRun.mono (or_bindex bt32 rfl rfl hr (by omega) (by omega)) ?_)
         rintro v _ ⟨rfl, p58, rfl, hp58, hpl58, hph58⟩
         replace hp58 : World.cell? _ p58 = some (u8v (l.getD (vget l).2.1 0)) := hp58
         exact ⟨⟨p58, rfl, hp58⟩, ext_refl _⟩
        ·intro wd hxE
         have hk_hxE := bels_out hxE
         obtain ⟨cs_g4, hcs_g4, hb_g4⟩ := bels_blk hxE (by simp) hb_g4
         have hz_hk_hxE := hk_hxE.size
         rintro _ ⟨p58, rfl, hp58⟩
         show OpG _ _ _ _ _ _
         exact og_plain rfl (ox_val (ov_load oc5 rfl hp58))
        ·intro wd hxE
         have hk_hxE := bels_out hxE
         obtain ⟨cs_g4, hcs_g4, hb_g4⟩ := bels_blk hxE (by simp) hb_g4
         have hz_hk_hxE := hk_hxE.size
         show OpG _ _ _ _ _ _
         exact og_plain rfl (ox_val (ov_move rfl))
        ·intro wd hxE
         have hk_hxE := bels_out hxE
         obtain ⟨cs_g4, hcs_g4, hb_g4⟩ := bels_blk hxE (by simp) hb_g4
         have hz_hk_hxE := hk_hxE.size
         show OpG _ _ _ _ _ _
         exact og_plain rfl (ox_val (ov_move rfl))
        ·intro wd hxE
         have hk_hxE := bels_out hxE
         obtain ⟨cs_g4, hcs_g4, hb_g4⟩ := bels_blk hxE (by simp) hb_g4
         have hz_hk_hxE := hk_hxE.size
         rintro _ rfl
         show OpG _ _ _ _ _ _
         exact og_plain rfl (ox_val (ov_add rfl rfl (wi64 (by omega) (by omega))))
        ·intro wd hxE
         have hk_hxE := bels_out hxE
         obtain ⟨cs_g4, hcs_g4, hb_g4⟩ := bels_blk hxE (by simp) hb_g4
         have hz_hk_hxE := hk_hxE.size
         show OpG _ _ _ _ _ _
         exact og_plain rfl (ox_val (ov_move rfl))
        ·intro wd hxE
         have hk_hxE := bels_out hxE
         obtain ⟨cs_g4, hcs_g4, hb_g4⟩ := bels_blk hxE (by simp) hb_g4
         have hz_hk_hxE := hk_hxE.size
         replace hr := hk_hxE.rd hr (by intro g hg; simp at hg; omega)
         rintro _ rfl
         rintro _ rfl
         rintro _ rfl
         show OpG _ _ _ _ _ _
         have hcap64 := RdB.cap hr
         refine og_plain rfl (OpRun.mono (or_bslice bt32 rfl hr (bounds_lh rfl rfl (by omega) (by omega) (by omega)) (by omega) (by omega) (by omega) (by omega)) ?_)
         rintro v _ ⟨rfl, A64, c64, rfl, hr64, hl64⟩
         have hs64 : (l.drop (Int.toNat ((↑(vget l).2.1 : Int) + 1))).take ((Int.toNat ((↑(vget l).2.1 : Int) + (↑(vget l).1 : Int))) - (Int.toNat ((↑(vget l).2.1 : Int) + 1))) = ((l.drop ((vget l).2.1 + 1)).take ((vget l).1 - 1)) := cut_eq l (by omega) (by omega)
         rw [hs64] at hr64 hl64; rw [hs64]; clear hs64
         exact ⟨⟨A64, c64, rfl, (Rd.top hr64).mono (Nat.zero_le _) (Nat.le_refl _)⟩, ext_refl _⟩
        ·intro wd hxE
         have hk_hxE := bels_out hxE
         obtain ⟨cs_g4, hcs_g4, hb_g4⟩ := bels_blk hxE (by simp) hb_g4
         have hz_hk_hxE := hk_hxE.size
         rintro _ ⟨A64, c64, rfl, hr64⟩
         show OpG _ _ _ _ _ _
         have hln : ((l.drop ((vget l).2.1 + 1)).take ((vget l).1 - 1)).length ≤ l.length := by simp; omega
         refine og_plain rfl (OpRun.mono (or_call0 cl76 rfl rfl (byclone_any _ _ _ _ _ _ hr64 (by omega))) ?_)
         rintro v w203 ⟨A65, c65, rfl, ho65, he65⟩
         have hz_he65 := he65.size
         exact ⟨⟨A65, c65, rfl, Own.mono ho65 (by omega)⟩, he65⟩
        ·intro wd hxE
         have hk_hxE := bels_out hxE
         obtain ⟨cs_g4, hcs_g4, hb_g4⟩ := bels_blk hxE (by simp) hb_g4
         have hz_hk_hxE := hk_hxE.size
         rintro _ rfl
         rintro _ ⟨A65, c65, rfl, ho65⟩
         show OpG _ _ _ _ _ _
         refine og_plain rfl (OpRun.mono (ov_build (cs := [(.int .u8 (↑(l.getD (vget l).2.1 0).toNat : Int)), (.slice A65 ((l.drop ((vget l).2.1 + 1)).take ((vget l).1 - 1)).length c65)]) ze117 pl117 rfl rfl) ?_)
         rintro v _ ⟨rfl, rfl⟩
         exact ⟨⟨A65, c65, rfl, ho65⟩, ext_refl _⟩
        ·intro wd hxE
         have hk_hxE := bels_out hxE
         obtain ⟨cs_g4, hcs_g4, hb_g4⟩ := bels_blk hxE (by simp) hb_g4
         have hz_hk_hxE := hk_hxE.size
         show OpG _ _ _ _ _ _
         exact og_plain rfl (ox_val (ov_move rfl))
        ·intro wd hxE
         have hk_hxE := bels_out hxE
         obtain ⟨cs_g4, hcs_g4, hb_g4⟩ := bels_blk hxE (by simp) hb_g4
         have hz_hk_hxE := hk_hxE.size
         rintro _ ⟨A65, c65, rfl, ho65⟩
         show OpG _ _ _ _ _ _
         have hb0 := hb_g4
         refine og_plain rfl (OpRun.mono (or_storeBlk (vs := [(.int .u8 (↑(l.getD (vget l).2.1 0).toNat : Int)), (.slice A65 ((l.drop ((vget l).2.1 + 1)).take ((vget l).1 - 1)).length c65)]) sz117 rfl rfl (by simp [Value.oneCell']) hb_g4 hcs_g4) ?_)
         rintro _ w203 ⟨hN203, hg203⟩
         have hz_hg203 := hg203.size
         replace ho65 := Own.gr ho65 hg203 (by first | exact .inl rfl | (right; intro e; first | (have := hq_ho65 _ e; omega) | (have := Own.lt ho65 e; omega) | exact own_blk_ne ho65 hb_g4 (by decide) e))
         replace hb_g4 := hN203
         exact ⟨⟨A65, c65, hb_g4, ho65⟩, bels_store hg203 (by simp) hb0 hb_g4 hcs_g4⟩
        ·intro wf13 hf13
         have hk_hf13 := bels_out hf13
         obtain ⟨cs_g4, hcs_g4, hb_g4⟩ := bels_blk hf13 (by simp) hb_g4
         have hz_hk_hf13 := hk_hf13.size
         replace hE := hk_hf13.e0 hE (by intro g hg; simp at hg; omega)
         rintro _ rfl
         rintro _ rfl
         intro v58
         rintro _ rfl
         rintro _ rfl
         rintro _ rfl
         rintro _ rfl
         rintro _ rfl
         intro v64
         intro v65
         intro v66
         rintro _ rfl
         rintro _ ⟨A65, c65, hb_g4, ho65⟩
         refine wa_tail (by kernel_rfl) ?_
         show WL _ _ _ [_, _] _ _ _
         iterate 2 refine va rfl rfl ?_
         refine q_nil (k_then (q_ret ?_))
         refine e_retL (rs := [.cell 4 117, .tmp 5, .tmp 6]) (vs := [.agg #[(.int .u8 (↑(l.getD (vget l).2.1 0).toNat : Int)), (.slice A65 ((l.drop ((vget l).2.1 + 1)).take ((vget l).1 - 1)).length c65)], (.int .i64 ((↑(vget l).2.1 : Int) + (↑(vget l).1 : Int))), (.int .i64 0)]) rfl ⟨⟨_, _, [(.int .u8 (↑(l.getD (vget l).2.1 0).toNat : Int)), (.slice A65 ((l.drop ((vget l).2.1 + 1)).take ((vget l).1 - 1)).length c65)], rfl, ag117_2, hb_g4, rfl⟩, rfl, rfl, trivial⟩ ?_
         first
          | exact fread_mk (x := 0) (p := []) (s := 0) (e := 2) (fread_arg (by omega)) (Own.nil_ _ _ _ _) hE
          | exact fread_mk (x := 0) (p := []) (s := 0) (e := 5) (fread_long (by omega) (by omega) (by omega)) (Own.nil_ _ _ _ _) hE
          | exact fread_mk (x := 0) (p := []) (s := 0) (e := 6) (fread_fmt (by omega) (by omega) (by omega)) (Own.nil_ _ _ _ _) hE
          | exact fread_mk (x := 0) (p := []) (s := 0) (e := 4) (fread_short (by omega) (by omega) (by omega) (by omega) (by omega)) (Own.nil_ _ _ _ _) hE
          | exact fread_mk (x := 0) (p := []) (s := 0) (e := 4) (fread_short0 (by omega) (by omega)) (Own.nil_ _ _ _ _) hE
          | (rw [show (((vget l).2.2 : Nat) : Int) = 4 by omega]; exact fread_mk (x := 0) (p := []) (s := 0) (e := 4) (fread_short0 (by omega) (by omega)) (Own.nil_ _ _ _ _) hE)
          | exact fread_mk (s := (vget l).2.1 + (vget l).1) (e := 0) (fread_ok (by omega) (by omega) (by omega) (by omega) (by omega)) (Own.mono ho65 (by omega)) hE
theorem bequal_any (w : World) (lo hi lo2 hi2 : Nat) (A : Option Addr) (c : Nat) (p : List UInt8) (B : Option Addr) (c2 : Nat) (q : List UInt8) (hr : RdB w lo hi A c p) (hr2 : RdB w lo2 hi2 B c2 q) :
  Fn Tryz.prog 143 #[(.slice A p.length c), (.slice B q.length c2)] w (fun v w' => v = .bool (decide (p = q)) ∧ w' = w)  := by
 refine fn_enter (args := [(.slice A p.length c), (.slice B q.length c2)]) Tryz.func143 rfl rfl rfl ?_
 show WC _ _ _ _ [(0, (.slice A p.length c)), (1, (.slice B q.length c2))] _
 refine wc_seq (wc_regionL ?_)
 refine va rfl rfl ?_
 refine q_nil (k_then (wc_seq (wc_regionL ?_)))
 refine vm rfl rfl ?_
 refine wl_val (ov_bstr bt32 Tryz.underlying9 rfl hr) rfl rfl rfl ?_
 refine vm rfl rfl ?_
 refine wl_val (ov_bstr bt32 Tryz.underlying9 rfl hr2) rfl rfl rfl ?_
 refine wl_val (ov_seq rfl rfl) rfl rfl rfl ?_
 refine va rfl rfl ?_
 refine q_nil (k_then (q_ret ?_))
 refine e_ret rfl rfl ?_
 exact ⟨rfl, rfl⟩
end Go.Proofs.YtiighkbehiddkaaGreat