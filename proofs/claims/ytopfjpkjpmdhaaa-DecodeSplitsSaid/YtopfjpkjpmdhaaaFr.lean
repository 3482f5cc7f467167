/-
  The contracts of the frame functions and of their reference.
-/
import Derived.Test.YtopfjpkjpmdhaaaVi
import Derived.Test.YtopfjpkjpmdhaaaRes
import Derived.Test.YtopfjpkjpmdhaaaBel
import Derived.Test.YtopfjpkjpmdhaaaFrame
namespace Go.Proofs.Ytopfjpkjpmdhaaa
open Go.RowKit
set_option linter.unusedVariables false
set_option maxRecDepth 4000
theorem ag72_2 : aggTy Try.prog 72 2 = true := by kernel_rfl
theorem cl62 : callable Try.prog 62 = true := by kernel_rfl
theorem cl65 : callable Try.prog 65 = true := by kernel_rfl
theorem cl66 : callable Try.prog 66 = true := by kernel_rfl
theorem fo72_0 : fieldOff Try.prog 72 0 = some 0 := by kernel_rfl
theorem fo72_1 : fieldOff Try.prog 72 1 = some 1 := by kernel_rfl
theorem mixed : Try.prog.follows .mixedOrders = true := by kernel_rfl
theorem oc26 : oneCellTy Try.prog 26 = true := by kernel_rfl
theorem pl72 : placesOf Try.prog 72 = some [(0, 1), (1, 1)] := by kernel_rfl
theorem sz72 : (Try.prog.info? 72).map (·.size) = some 2 := by kernel_rfl
theorem ze72 : zeroOf Try.prog 72 = some (.agg #[(.int .u8 0), (.slice none 0 0)]) := by kernel_rfl

/-- What a call of Write leaves. -/
def FWrite (w : World) (x : UInt8) (p : List UInt8) (v : Value) (w' : World) : Prop :=
  ∃ A c, v = .tuple #[.slice A (fwrite x p).1.length c, .int .i64 ((fwrite x p).2 : Int)] ∧ OwnB w' w.heap.size 5 A c (fwrite x p).1 ∧ Ext w w'
theorem fwrite_mk {w w' : World} {x : UInt8} {p b : List UInt8} {e : Nat} (h : fwrite x p = (b, e)) {A : Option Addr} {c : Nat} (ho : OwnB w' w.heap.size 5 A c b) (hE : Ext w w') : FWrite w x p (.tuple #[.slice A b.length c, .int .i64 (e : Int)]) w' := by
  unfold FWrite; rw [h]; exact ⟨A, c, rfl, ho, hE⟩
/-- What a call of Read leaves. -/
def FRead (w : World) (l : List UInt8) (most : Int) (v : Value) (w' : World) : Prop :=
  ∃ A c, v = .tuple #[.agg #[.int .u8 ((fread l most).1.1.toNat : Int), .slice A (fread l most).1.2.length c], .int .i64 ((fread l most).2.1 : Int), .int .i64 ((fread l most).2.2 : Int)] ∧ OwnB w' w.heap.size 5 A c (fread l most).1.2 ∧ Ext w w'
theorem fread_mk {w w' : World} {l : List UInt8} {most : Int} {x : UInt8} {p : List UInt8} {s e : Nat} (h : fread l most = ((x, p), s, e)) {A : Option Addr} {c : Nat} (ho : OwnB w' w.heap.size 5 A c p) (hE : Ext w w') :
    FRead w l most (.tuple #[.agg #[.int .u8 (x.toNat : Int), .slice A p.length c], .int .i64 (s : Int), .int .i64 (e : Int)]) w' := by
  unfold FRead; rw [h]; exact ⟨A, c, rfl, ho, hE⟩
theorem toNat_inj {x y : UInt8} (h : (x.toNat : Int) = (y.toNat : Int)) : x = y := UInt8.toNat_inj.1 (by omega)

theorem rfwrite_any (w : World) (lo hi : Nat) (x : UInt8) (A : Option Addr) (c : Nat) (p : List UInt8) (hr : RdB w lo hi A c p) (hp : p.length ≤ 140737488355328) :
    Fn Try.prog 41 #[(.agg #[(.int .u8 (↑x.toNat : Int)), (.slice A p.length c)])] w (FWrite w x p) := by
  replace hr := hr.top
  have hE := ext_refl w
  have hfl := flen_cases p
  refine fn_enter (args := [(.agg #[(.int .u8 (↑x.toNat : Int)), (.slice A p.length c)])]) Try.func41 rfl rfl rfl ?_
  show WC _ _ _ _ [(0, (.agg #[(.int .u8 (↑x.toNat : Int)), (.slice A p.length c)]))] _
  refine wc_seq ?_
  refine wc_regionL ?_
  refine wl_step (or_box (cs := [(.int .u8 (↑x.toNat : Int)), (.slice A p.length c)]) rfl rfl) rfl rfl rfl ?_
  rintro v w1 ⟨g1, rfl, hb_g1, he1, hl1, hu1⟩
  replace hr := hr.ext he1
  replace hE := hE.tr he1
  have hz_he1 := he1.size
  refine wl_val (ov_assign rfl) rfl rfl rfl ?_
  refine wl_val (ov_assign rfl) rfl rfl rfl ?_
  refine q_nil ?_
  refine k_then ?_
  refine wc_seq ?_
  refine wc_seq ?_
  refine wc_regionL ?_
  refine wl_val (ov_field0 (off := 1) fo72_1 rfl) rfl rfl rfl ?_
  refine wl_val (ov_loadAt oc26 rfl hb_g1 rfl) rfl rfl rfl ?_
  refine wl_val (ov_len Try.underlying26 rfl) rfl rfl rfl ?_
  refine wl_val (ov_gtr rfl rfl) rfl rfl rfl ?_
  refine q_nil ?_
  refine k_then ?_
  refine wc_cond_d rfl (fun hc1 => ?_) (fun hc1 => ?_)
  · refine wc_seq ?_
    refine wc_regionL ?_
    refine wl_val (ov_assign rfl) rfl rfl rfl ?_
    refine wl_val (ov_assign rfl) rfl rfl rfl ?_
    refine q_nil ?_
    refine k_then ?_
    refine q_ret ?_
    refine k_thenR ?_
    refine e_ret2 rfl rfl rfl ?_
    exact fwrite_mk (e := 5) (fwrite_long (by omega)) (Own.nil_ _ _ _ _) hE
  · refine q_skip ?_
    refine k_then ?_
    refine wc_seq ?_
    refine wc_regionL ?_
    refine wl_val (ov_field0 (off := 1) fo72_1 rfl) rfl rfl rfl ?_
    refine wl_val (ov_loadAt oc26 rfl hb_g1 rfl) rfl rfl rfl ?_
    refine wl_val (ov_len Try.underlying26 rfl) rfl rfl rfl ?_
    refine wl_val (ov_conv Try.underlying3 Try.underlying27 rfl (wu64 (by omega) (by omega))) rfl rfl rfl ?_
    refine wl_val (ov_add rfl rfl (wu64 (by omega) (by omega))) rfl rfl rfl ?_
    refine wl_step (or_call0 cl63 rfl rfl (rput_any ((p.length + 1)) _ (by omega))) rfl rfl rfl ?_
    rintro v w202 ⟨A14, c14, rfl, ho14, he14⟩
    replace hr := hr.ext he14
    replace hE := hE.tr he14
    replace hb_g1 := hb_g1.ext he14
    have hz_he14 := he14.size
    have hq_ho14 := fun g e => Own.lt ho14 (g := g) e
    have hel := enc_len (p.length + 1)
    refine wl_val (ov_assign rfl) rfl rfl rfl ?_
    refine q_nil ?_
    refine k_then ?_
    refine wc_seq ?_
    refine wc_regionL ?_
    refine wl_val (ov_move rfl) rfl rfl rfl ?_
    refine wl_val (ov_field0 (off := 0) fo72_0 rfl) rfl rfl rfl ?_
    refine wl_val (ov_loadAt oc5 rfl hb_g1 rfl) rfl rfl rfl ?_
    refine wl_step (or_buildBytes (l := [x]) bt26 (os := [.tmp 17]) rfl rfl rfl (by decide)) rfl rfl rfl ?_
    rintro v w203 ⟨A18, c18, rfl, ho18, he18⟩
    replace hr := hr.ext he18
    replace hE := hE.tr he18
    replace hb_g1 := hb_g1.ext he18
    replace ho14 := Own.ext ho14 he18
    have hz_he18 := he18.size
    have hq_ho18 := fun g e => Own.lt ho18 (g := g) e
    refine wl_step (or_bappend bt26 rfl ho14 rfl (OwnB.rd ho18) (by simp; omega) (by omega)) rfl rfl rfl ?_
    rintro v w204 ⟨A19, c19, rfl, ho19, hg19, ha19⟩
    have hq19 := fun g e => Own.lt ho14 (g := g) e
    have hz_hg19 := hg19.size
    replace hr := hr.gr hg19 (fun g e => by have := hq19 g e; omega)
    replace hE := hE.gr hg19 (fun g e => by have := hq19 g e; omega)
    replace hb_g1 := hb_g1.gr hg19 (by first | (intro e; have := hq19 _ e; omega) | exact own_blk_ne ho14 hb_g1 (by decide))
    have hq_ho19 := fun g e => Own.lt ho19 (g := g) e
    refine wl_val (ov_assign rfl) rfl rfl rfl ?_
    refine q_nil ?_
    refine k_then ?_
    refine wc_seq ?_
    refine wc_regionL ?_
    refine wl_val (ov_move rfl) rfl rfl rfl ?_
    refine wl_val (ov_field0 (off := 1) fo72_1 rfl) rfl rfl rfl ?_
    refine wl_val (ov_loadAt oc26 rfl hb_g1 rfl) rfl rfl rfl ?_
    refine wl_step (or_bappend bt26 rfl ho19 rfl hr (by simp; omega) (by omega)) rfl rfl rfl ?_
    rintro v w205 ⟨A23, c23, rfl, ho23, hg23, ha23⟩
    have hq23 := fun g e => Own.lt ho19 (g := g) e
    have hz_hg23 := hg23.size
    replace hr := hr.gr hg23 (fun g e => by have := hq23 g e; omega)
    replace hE := hE.gr hg23 (fun g e => by have := hq23 g e; omega)
    replace hb_g1 := hb_g1.gr hg23 (by first | (intro e; have := hq23 _ e; omega) | exact own_blk_ne ho19 hb_g1 (by decide))
    have hq_ho23 := fun g e => Own.lt ho23 (g := g) e
    refine wl_val (ov_assign rfl) rfl rfl rfl ?_
    refine wl_val (ov_assign rfl) rfl rfl rfl ?_
    refine q_nil ?_
    refine k_then ?_
    refine q_ret ?_
    refine e_ret2 rfl rfl rfl ?_
    exact fwrite_mk (e := 0) (fwrite_short (by omega)) (Own.mono ho23 (by omega)) hE

theorem fread_any (w : World) (lo hi : Nat) (A : Option Addr) (c : Nat) (l : List UInt8) (most : Int) (hm1 : -9223372036854775808 ≤ most) (hm : most ≤ 9223372036854775807) (hr : RdB w lo hi A c l) (hlen : l.length ≤ 140737488355328) :
    Fn Try.prog 61 #[(.slice A l.length c), (.int .i64 most)] w (FRead w l most) := by
  replace hr := hr.top
  have hcap := RdB.cap hr
  have hE := ext_refl w
  have hn := vget_lt l
  have hs := vget_size l
  have hbad := vget_bad l
  refine fn_enter (args := [(.slice A l.length c), (.int .i64 most)]) Try.func61 rfl rfl rfl ?_
  show WC _ _ _ _ [(0, (.slice A l.length c)), (1, (.int .i64 most))] _
  refine wc_seq ?_
  refine wc_regionL ?_
  refine wl_step (or_alloc (cs := [(.int .u8 0), (.slice none 0 0)]) ze72 rfl) rfl rfl rfl ?_
  rintro v w1 ⟨g4, rfl, hb_g4, he4, hl4, hu4⟩
  replace hr := hr.ext he4
  replace hE := hE.tr he4
  have hz_he4 := he4.size
  refine wl_val (ov_assign rfl) rfl rfl rfl ?_
  refine wl_val (ov_assign rfl) rfl rfl rfl ?_
  refine q_nil ?_
  refine k_then ?_
  refine wc_seq ?_
  refine wc_seq ?_
  refine wc_regionL ?_
  refine wl_val (ov_move rfl) rfl rfl rfl ?_
  refine wl_val (ov_lss rfl rfl) rfl rfl rfl ?_
  refine wl_case_d (d := 11) rfl (fun h11 => ?_) (fun h11 => ?_)
  · refine wl_val (ov_move rfl) rfl rfl rfl ?_
    refine wl_gskip rfl rfl rfl rfl rfl rfl ?_
    refine wl_gskip rfl rfl rfl rfl rfl rfl ?_
    refine wl_val (ov_pick_t rfl rfl) rfl rfl rfl ?_
    refine q_nil ?_
    refine k_then ?_
    refine wc_cond_t rfl ?_
    refine wc_seq ?_
    refine wc_regionL ?_
    refine wl_val (ov_build (cs := [(.int .u8 0), (.slice none 0 0)]) ze72 pl72 rfl rfl) rfl rfl rfl ?_
    refine wl_step0 (or_storeBlk (vs := [(.int .u8 0), (.slice none 0 0)]) sz72 rfl rfl (by simp [Value.oneCell']) hb_g4 rfl) rfl rfl ?_
    rintro _ w2 ⟨hN2, hg2⟩
    have hz_hg2 := hg2.size
    replace hr := hr.gr hg2 (fun _ e => by cases e; omega)
    replace hE := hE.gr hg2 (fun _ e => by cases e; omega)
    replace hb_g4 := hN2
    refine wl_val (ov_assign rfl) rfl rfl rfl ?_
    refine wl_val (ov_assign rfl) rfl rfl rfl ?_
    refine q_nil ?_
    refine k_then ?_
    refine q_ret ?_
    refine k_thenR ?_
    refine e_retL (rs := [.cell 4 72, .tmp 5, .tmp 6]) (vs := [.agg #[(.int .u8 0), (.slice none 0 0)], (.int .i64 0), (.int .i64 2)]) rfl ⟨⟨_, _, [(.int .u8 0), (.slice none 0 0)], rfl, ag72_2, hb_g4, rfl⟩, rfl, rfl, trivial⟩ ?_
    first
      | exact fread_mk (x := 0) (p := []) (s := 0) (e := 2) (fread_arg (by omega)) (Own.nil_ _ _ _ _) hE
      | exact fread_mk (x := 0) (p := []) (s := 0) (e := 5) (fread_long (by omega) (by omega) (by omega)) (Own.nil_ _ _ _ _) hE
      | exact fread_mk (x := 0) (p := []) (s := 0) (e := 6) (fread_fmt (by omega) (by omega) (by omega)) (Own.nil_ _ _ _ _) hE
      | exact fread_mk (x := 0) (p := []) (s := 0) (e := 4) (fread_short (by omega) (by omega) (by omega) (by omega) (by omega)) (Own.nil_ _ _ _ _) hE
      | exact fread_mk (x := 0) (p := []) (s := 0) (e := 4) (fread_short0 (by omega) (by omega)) (Own.nil_ _ _ _ _) hE
      | (rw [show (((vget l).2.2 : Nat) : Int) = 4 by omega]; exact fread_mk (x := 0) (p := []) (s := 0) (e := 4) (fread_short0 (by omega) (by omega)) (Own.nil_ _ _ _ _) hE)
      | exact fread_mk (s := (vget l).2.1 + (vget l).1) (e := 0) (fread_ok (by omega) (by omega) (by omega) (by omega) (by omega)) (Own.mono ho65 (by omega)) hE
  · refine wl_val (ov_move rfl) rfl rfl rfl ?_
    refine wl_gval (ov_move rfl) rfl rfl rfl rfl rfl ?_
    refine wl_gval (ov_gtr rfl rfl) rfl rfl rfl rfl rfl ?_
    refine wl_val (ov_pick_f rfl rfl) rfl rfl rfl ?_
    refine q_nil ?_
    refine k_then ?_
    refine wc_cond_d rfl (fun hc1 => ?_) (fun hc1 => ?_)
    · refine wc_seq ?_
      refine wc_regionL ?_
      refine wl_val (ov_build (cs := [(.int .u8 0), (.slice none 0 0)]) ze72 pl72 rfl rfl) rfl rfl rfl ?_
      refine wl_step0 (or_storeBlk (vs := [(.int .u8 0), (.slice none 0 0)]) sz72 rfl rfl (by simp [Value.oneCell']) hb_g4 rfl) rfl rfl ?_
      rintro _ w202 ⟨hN202, hg202⟩
      have hz_hg202 := hg202.size
      replace hr := hr.gr hg202 (fun _ e => by cases e; omega)
      replace hE := hE.gr hg202 (fun _ e => by cases e; omega)
      replace hb_g4 := hN202
      refine wl_val (ov_assign rfl) rfl rfl rfl ?_
      refine wl_val (ov_assign rfl) rfl rfl rfl ?_
      refine q_nil ?_
      refine k_then ?_
      refine q_ret ?_
      refine k_thenR ?_
      refine e_retL (rs := [.cell 4 72, .tmp 5, .tmp 6]) (vs := [.agg #[(.int .u8 0), (.slice none 0 0)], (.int .i64 0), (.int .i64 2)]) rfl ⟨⟨_, _, [(.int .u8 0), (.slice none 0 0)], rfl, ag72_2, hb_g4, rfl⟩, rfl, rfl, trivial⟩ ?_
      first
        | exact fread_mk (x := 0) (p := []) (s := 0) (e := 2) (fread_arg (by omega)) (Own.nil_ _ _ _ _) hE
        | exact fread_mk (x := 0) (p := []) (s := 0) (e := 5) (fread_long (by omega) (by omega) (by omega)) (Own.nil_ _ _ _ _) hE
        | exact fread_mk (x := 0) (p := []) (s := 0) (e := 6) (fread_fmt (by omega) (by omega) (by omega)) (Own.nil_ _ _ _ _) hE
        | exact fread_mk (x := 0) (p := []) (s := 0) (e := 4) (fread_short (by omega) (by omega) (by omega) (by omega) (by omega)) (Own.nil_ _ _ _ _) hE
        | exact fread_mk (x := 0) (p := []) (s := 0) (e := 4) (fread_short0 (by omega) (by omega)) (Own.nil_ _ _ _ _) hE
        | (rw [show (((vget l).2.2 : Nat) : Int) = 4 by omega]; exact fread_mk (x := 0) (p := []) (s := 0) (e := 4) (fread_short0 (by omega) (by omega)) (Own.nil_ _ _ _ _) hE)
        | exact fread_mk (s := (vget l).2.1 + (vget l).1) (e := 0) (fread_ok (by omega) (by omega) (by omega) (by omega) (by omega)) (Own.mono ho65 (by omega)) hE
    · refine q_skip ?_
      refine k_then ?_
      refine wc_seq ?_
      refine wc_regionL ?_
      refine wl_val (ov_move rfl) rfl rfl rfl ?_
      refine wl_val (or_call0 cl62 rfl rfl (get_any _ _ _ _ _ l hr)) rfl rfl rfl ?_
      refine wl_val (ov_move rfl) rfl rfl rfl ?_
      refine wl_val (ov_extract rfl rfl) rfl rfl rfl ?_
      refine wl_val (ov_extract rfl rfl) rfl rfl rfl ?_
      refine wl_val (ov_extract rfl rfl) rfl rfl rfl ?_
      refine wl_val (ov_assign rfl) rfl rfl rfl ?_
      refine wl_val (ov_assign rfl) rfl rfl rfl ?_
      refine wl_val (ov_assign rfl) rfl rfl rfl ?_
      refine q_nil ?_
      refine k_then ?_
      refine wc_seq ?_
      refine wc_block ?_
      refine wc_seq ?_
      refine wc_regionL ?_
      refine wl_val (ov_move rfl) rfl rfl rfl ?_
      refine wl_val (ov_eql rfl rfl) rfl rfl rfl ?_
      refine wl_val (ov_assign rfl) rfl rfl rfl ?_
      refine q_nil ?_
      refine k_then ?_
      refine wc_cond_d rfl (fun hc2 => ?_) (fun hc2 => ?_)
      · refine wc_seq ?_
        refine wc_regionL ?_
        refine wl_val (ov_build (cs := [(.int .u8 0), (.slice none 0 0)]) ze72 pl72 rfl rfl) rfl rfl rfl ?_
        refine wl_val (ov_move rfl) rfl rfl rfl ?_
        refine wl_step0 (or_storeBlk (vs := [(.int .u8 0), (.slice none 0 0)]) sz72 rfl rfl (by simp [Value.oneCell']) hb_g4 rfl) rfl rfl ?_
        rintro _ w202 ⟨hN202, hg202⟩
        have hz_hg202 := hg202.size
        replace hr := hr.gr hg202 (fun _ e => by cases e; omega)
        replace hE := hE.gr hg202 (fun _ e => by cases e; omega)
        replace hb_g4 := hN202
        refine wl_val (ov_assign rfl) rfl rfl rfl ?_
        refine wl_val (ov_assign rfl) rfl rfl rfl ?_
        refine q_nil ?_
        refine k_then ?_
        refine q_ret ?_
        refine k_blockR ?_
        refine k_thenR ?_
        refine e_retL (rs := [.cell 4 72, .tmp 5, .tmp 6]) (vs := [.agg #[(.int .u8 0), (.slice none 0 0)], (.int .i64 0), (.int .i64 (↑(vget l).2.2 : Int))]) rfl ⟨⟨_, _, [(.int .u8 0), (.slice none 0 0)], rfl, ag72_2, hb_g4, rfl⟩, rfl, rfl, trivial⟩ ?_
        first
          | exact fread_mk (x := 0) (p := []) (s := 0) (e := 2) (fread_arg (by omega)) (Own.nil_ _ _ _ _) hE
          | exact fread_mk (x := 0) (p := []) (s := 0) (e := 5) (fread_long (by omega) (by omega) (by omega)) (Own.nil_ _ _ _ _) hE
          | exact fread_mk (x := 0) (p := []) (s := 0) (e := 6) (fread_fmt (by omega) (by omega) (by omega)) (Own.nil_ _ _ _ _) hE
          | exact fread_mk (x := 0) (p := []) (s := 0) (e := 4) (fread_short (by omega) (by omega) (by omega) (by omega) (by omega)) (Own.nil_ _ _ _ _) hE
          | exact fread_mk (x := 0) (p := []) (s := 0) (e := 4) (fread_short0 (by omega) (by omega)) (Own.nil_ _ _ _ _) hE
          | (rw [show (((vget l).2.2 : Nat) : Int) = 4 by omega]; exact fread_mk (x := 0) (p := []) (s := 0) (e := 4) (fread_short0 (by omega) (by omega)) (Own.nil_ _ _ _ _) hE)
          | exact fread_mk (s := (vget l).2.1 + (vget l).1) (e := 0) (fread_ok (by omega) (by omega) (by omega) (by omega) (by omega)) (Own.mono ho65 (by omega)) hE
      · refine wc_seq ?_
        refine wc_regionL ?_
        refine wl_val (ov_move rfl) rfl rfl rfl ?_
        refine wl_val (ov_neq rfl rfl) rfl rfl rfl ?_
        refine wl_case_d (d := 30) rfl (fun h30 => ?_) (fun h30 => ?_)
        · refine wl_val (ov_move rfl) rfl rfl rfl ?_
          refine wl_gskip rfl rfl rfl rfl rfl rfl ?_
          refine wl_gskip rfl rfl rfl rfl rfl rfl ?_
          refine wl_gskip rfl rfl rfl rfl rfl rfl ?_
          refine wl_gskip rfl rfl rfl rfl rfl rfl ?_
          refine wl_gskip rfl rfl rfl rfl rfl rfl ?_
          refine wl_val (ov_pick_t rfl rfl) rfl rfl rfl ?_
          refine wl_val (ov_assign rfl) rfl rfl rfl ?_
          refine q_nil ?_
          refine k_then ?_
          refine wc_cond_t rfl ?_
          refine wc_seq ?_
          refine wc_regionL ?_
          refine wl_val (ov_build (cs := [(.int .u8 0), (.slice none 0 0)]) ze72 pl72 rfl rfl) rfl rfl rfl ?_
          refine wl_step0 (or_storeBlk (vs := [(.int .u8 0), (.slice none 0 0)]) sz72 rfl rfl (by simp [Value.oneCell']) hb_g4 rfl) rfl rfl ?_
          rintro _ w202 ⟨hN202, hg202⟩
          have hz_hg202 := hg202.size
          replace hr := hr.gr hg202 (fun _ e => by cases e; omega)
          replace hE := hE.gr hg202 (fun _ e => by cases e; omega)
          replace hb_g4 := hN202
          refine wl_val (ov_assign rfl) rfl rfl rfl ?_
          refine wl_val (ov_assign rfl) rfl rfl rfl ?_
          refine q_nil ?_
          refine k_then ?_
          refine q_ret ?_
          refine k_blockR ?_
          refine k_thenR ?_
          refine e_retL (rs := [.cell 4 72, .tmp 5, .tmp 6]) (vs := [.agg #[(.int .u8 0), (.slice none 0 0)], (.int .i64 0), (.int .i64 5)]) rfl ⟨⟨_, _, [(.int .u8 0), (.slice none 0 0)], rfl, ag72_2, hb_g4, rfl⟩, rfl, rfl, trivial⟩ ?_
          first
            | exact fread_mk (x := 0) (p := []) (s := 0) (e := 2) (fread_arg (by omega)) (Own.nil_ _ _ _ _) hE
            | exact fread_mk (x := 0) (p := []) (s := 0) (e := 5) (fread_long (by omega) (by omega) (by omega)) (Own.nil_ _ _ _ _) hE
            | exact fread_mk (x := 0) (p := []) (s := 0) (e := 6) (fread_fmt (by omega) (by omega) (by omega)) (Own.nil_ _ _ _ _) hE
            | exact fread_mk (x := 0) (p := []) (s := 0) (e := 4) (fread_short (by omega) (by omega) (by omega) (by omega) (by omega)) (Own.nil_ _ _ _ _) hE
            | exact fread_mk (x := 0) (p := []) (s := 0) (e := 4) (fread_short0 (by omega) (by omega)) (Own.nil_ _ _ _ _) hE
            | (rw [show (((vget l).2.2 : Nat) : Int) = 4 by omega]; exact fread_mk (x := 0) (p := []) (s := 0) (e := 4) (fread_short0 (by omega) (by omega)) (Own.nil_ _ _ _ _) hE)
            | exact fread_mk (s := (vget l).2.1 + (vget l).1) (e := 0) (fread_ok (by omega) (by omega) (by omega) (by omega) (by omega)) (Own.mono ho65 (by omega)) hE
        · refine wl_val (ov_move rfl) rfl rfl rfl ?_
          refine wl_gval (ov_move rfl) rfl rfl rfl rfl rfl ?_
          refine wl_gval (ov_move rfl) rfl rfl rfl rfl rfl ?_
          refine wl_gval (ov_add rfl rfl (wi64 (by omega) (by omega))) rfl rfl rfl rfl rfl ?_
          refine wl_gval (ov_conv Try.underlying3 Try.underlying27 rfl (wu64 (by omega) (by omega))) rfl rfl rfl rfl rfl ?_
          refine wl_gval (ov_gtr rfl rfl) rfl rfl rfl rfl rfl ?_
          refine wl_val (ov_pick_f rfl rfl) rfl rfl rfl ?_
          refine wl_val (ov_assign rfl) rfl rfl rfl ?_
          refine q_nil ?_
          refine k_then ?_
          refine wc_cond_d rfl (fun hc3 => ?_) (fun hc3 => ?_)
          · refine wc_seq ?_
            refine wc_regionL ?_
            refine wl_val (ov_build (cs := [(.int .u8 0), (.slice none 0 0)]) ze72 pl72 rfl rfl) rfl rfl rfl ?_
            refine wl_step0 (or_storeBlk (vs := [(.int .u8 0), (.slice none 0 0)]) sz72 rfl rfl (by simp [Value.oneCell']) hb_g4 rfl) rfl rfl ?_
            rintro _ w202 ⟨hN202, hg202⟩
            have hz_hg202 := hg202.size
            replace hr := hr.gr hg202 (fun _ e => by cases e; omega)
            replace hE := hE.gr hg202 (fun _ e => by cases e; omega)
            replace hb_g4 := hN202
            refine wl_val (ov_assign rfl) rfl rfl rfl ?_
            refine wl_val (ov_assign rfl) rfl rfl rfl ?_
            refine q_nil ?_
            refine k_then ?_
            refine q_ret ?_
            refine k_blockR ?_
            refine k_thenR ?_
            refine e_retL (rs := [.cell 4 72, .tmp 5, .tmp 6]) (vs := [.agg #[(.int .u8 0), (.slice none 0 0)], (.int .i64 0), (.int .i64 5)]) rfl ⟨⟨_, _, [(.int .u8 0), (.slice none 0 0)], rfl, ag72_2, hb_g4, rfl⟩, rfl, rfl, trivial⟩ ?_
            first
              | exact fread_mk (x := 0) (p := []) (s := 0) (e := 2) (fread_arg (by omega)) (Own.nil_ _ _ _ _) hE
              | exact fread_mk (x := 0) (p := []) (s := 0) (e := 5) (fread_long (by omega) (by omega) (by omega)) (Own.nil_ _ _ _ _) hE
              | exact fread_mk (x := 0) (p := []) (s := 0) (e := 6) (fread_fmt (by omega) (by omega) (by omega)) (Own.nil_ _ _ _ _) hE
              | exact fread_mk (x := 0) (p := []) (s := 0) (e := 4) (fread_short (by omega) (by omega) (by omega) (by omega) (by omega)) (Own.nil_ _ _ _ _) hE
              | exact fread_mk (x := 0) (p := []) (s := 0) (e := 4) (fread_short0 (by omega) (by omega)) (Own.nil_ _ _ _ _) hE
              | (rw [show (((vget l).2.2 : Nat) : Int) = 4 by omega]; exact fread_mk (x := 0) (p := []) (s := 0) (e := 4) (fread_short0 (by omega) (by omega)) (Own.nil_ _ _ _ _) hE)
              | exact fread_mk (s := (vget l).2.1 + (vget l).1) (e := 0) (fread_ok (by omega) (by omega) (by omega) (by omega) (by omega)) (Own.mono ho65 (by omega)) hE
          · refine wc_seq ?_
            refine wc_regionL ?_
            refine wl_val (ov_move rfl) rfl rfl rfl ?_
            refine wl_val (ov_eql rfl rfl) rfl rfl rfl ?_
            refine wl_val (ov_assign rfl) rfl rfl rfl ?_
            refine q_nil ?_
            refine k_then ?_
            refine wc_cond_d rfl (fun hc4 => ?_) (fun hc4 => ?_)
            · refine wc_seq ?_
              refine wc_regionL ?_
              refine wl_val (ov_build (cs := [(.int .u8 0), (.slice none 0 0)]) ze72 pl72 rfl rfl) rfl rfl rfl ?_
              refine wl_step0 (or_storeBlk (vs := [(.int .u8 0), (.slice none 0 0)]) sz72 rfl rfl (by simp [Value.oneCell']) hb_g4 rfl) rfl rfl ?_
              rintro _ w202 ⟨hN202, hg202⟩
              have hz_hg202 := hg202.size
              replace hr := hr.gr hg202 (fun _ e => by cases e; omega)
              replace hE := hE.gr hg202 (fun _ e => by cases e; omega)
              replace hb_g4 := hN202
              refine wl_val (ov_assign rfl) rfl rfl rfl ?_
              refine wl_val (ov_assign rfl) rfl rfl rfl ?_
              refine q_nil ?_
              refine k_then ?_
              refine q_ret ?_
              refine k_blockR ?_
              refine k_thenR ?_
              refine e_retL (rs := [.cell 4 72, .tmp 5, .tmp 6]) (vs := [.agg #[(.int .u8 0), (.slice none 0 0)], (.int .i64 0), (.int .i64 6)]) rfl ⟨⟨_, _, [(.int .u8 0), (.slice none 0 0)], rfl, ag72_2, hb_g4, rfl⟩, rfl, rfl, trivial⟩ ?_
              first
                | exact fread_mk (x := 0) (p := []) (s := 0) (e := 2) (fread_arg (by omega)) (Own.nil_ _ _ _ _) hE
                | exact fread_mk (x := 0) (p := []) (s := 0) (e := 5) (fread_long (by omega) (by omega) (by omega)) (Own.nil_ _ _ _ _) hE
                | exact fread_mk (x := 0) (p := []) (s := 0) (e := 6) (fread_fmt (by omega) (by omega) (by omega)) (Own.nil_ _ _ _ _) hE
                | exact fread_mk (x := 0) (p := []) (s := 0) (e := 4) (fread_short (by omega) (by omega) (by omega) (by omega) (by omega)) (Own.nil_ _ _ _ _) hE
                | exact fread_mk (x := 0) (p := []) (s := 0) (e := 4) (fread_short0 (by omega) (by omega)) (Own.nil_ _ _ _ _) hE
                | (rw [show (((vget l).2.2 : Nat) : Int) = 4 by omega]; exact fread_mk (x := 0) (p := []) (s := 0) (e := 4) (fread_short0 (by omega) (by omega)) (Own.nil_ _ _ _ _) hE)
                | exact fread_mk (s := (vget l).2.1 + (vget l).1) (e := 0) (fread_ok (by omega) (by omega) (by omega) (by omega) (by omega)) (Own.mono ho65 (by omega)) hE
            · refine wc_seq ?_
              refine wc_regionL ?_
              refine wl_val (ov_move rfl) rfl rfl rfl ?_
              refine wl_val (ov_move rfl) rfl rfl rfl ?_
              refine wl_val (ov_len Try.underlying26 rfl) rfl rfl rfl ?_
              refine wl_val (ov_move rfl) rfl rfl rfl ?_
              refine wl_val (ov_sub rfl rfl (wi64 (by omega) (by omega))) rfl rfl rfl ?_
              refine wl_val (ov_conv Try.underlying3 Try.underlying27 rfl (wu64 (by omega) (by omega))) rfl rfl rfl ?_
              refine wl_val (ov_gtr rfl rfl) rfl rfl rfl ?_
              refine wl_val (ov_assign rfl) rfl rfl rfl ?_
              refine q_nil ?_
              refine k_then ?_
              refine wc_cond_d rfl (fun hc5 => ?_) (fun hc5 => ?_)
              · refine wc_seq ?_
                refine wc_regionL ?_
                refine wl_val (ov_build (cs := [(.int .u8 0), (.slice none 0 0)]) ze72 pl72 rfl rfl) rfl rfl rfl ?_
                refine wl_step0 (or_storeBlk (vs := [(.int .u8 0), (.slice none 0 0)]) sz72 rfl rfl (by simp [Value.oneCell']) hb_g4 rfl) rfl rfl ?_
                rintro _ w202 ⟨hN202, hg202⟩
                have hz_hg202 := hg202.size
                replace hr := hr.gr hg202 (fun _ e => by cases e; omega)
                replace hE := hE.gr hg202 (fun _ e => by cases e; omega)
                replace hb_g4 := hN202
                refine wl_val (ov_assign rfl) rfl rfl rfl ?_
                refine wl_val (ov_assign rfl) rfl rfl rfl ?_
                refine q_nil ?_
                refine k_then ?_
                refine q_ret ?_
                refine k_blockR ?_
                refine k_thenR ?_
                refine e_retL (rs := [.cell 4 72, .tmp 5, .tmp 6]) (vs := [.agg #[(.int .u8 0), (.slice none 0 0)], (.int .i64 0), (.int .i64 4)]) rfl ⟨⟨_, _, [(.int .u8 0), (.slice none 0 0)], rfl, ag72_2, hb_g4, rfl⟩, rfl, rfl, trivial⟩ ?_
                first
                  | exact fread_mk (x := 0) (p := []) (s := 0) (e := 2) (fread_arg (by omega)) (Own.nil_ _ _ _ _) hE
                  | exact fread_mk (x := 0) (p := []) (s := 0) (e := 5) (fread_long (by omega) (by omega) (by omega)) (Own.nil_ _ _ _ _) hE
                  | exact fread_mk (x := 0) (p := []) (s := 0) (e := 6) (fread_fmt (by omega) (by omega) (by omega)) (Own.nil_ _ _ _ _) hE
                  | exact fread_mk (x := 0) (p := []) (s := 0) (e := 4) (fread_short (by omega) (by omega) (by omega) (by omega) (by omega)) (Own.nil_ _ _ _ _) hE
                  | exact fread_mk (x := 0) (p := []) (s := 0) (e := 4) (fread_short0 (by omega) (by omega)) (Own.nil_ _ _ _ _) hE
                  | (rw [show (((vget l).2.2 : Nat) : Int) = 4 by omega]; exact fread_mk (x := 0) (p := []) (s := 0) (e := 4) (fread_short0 (by omega) (by omega)) (Own.nil_ _ _ _ _) hE)
                  | exact fread_mk (s := (vget l).2.1 + (vget l).1) (e := 0) (fread_ok (by omega) (by omega) (by omega) (by omega) (by omega)) (Own.mono ho65 (by omega)) hE
              · have hn2 : (vget l).1 ≤ l.length := by omega
                refine q_skip ?_
                refine k_block ?_
                refine k_then ?_
                refine wc_seq ?_
                refine wc_regionL ?_
                refine wl_val (ov_move rfl) rfl rfl rfl ?_
                refine wl_val (ov_move rfl) rfl rfl rfl ?_
                refine wl_val (ov_conv Try.underlying27 Try.underlying3 rfl (wi64 (by omega) (by omega))) rfl rfl rfl ?_
                refine wl_val (ov_add rfl rfl (wi64 (by omega) (by omega))) rfl rfl rfl ?_
                refine wl_val (ov_assign rfl) rfl rfl rfl ?_
                refine q_nil ?_
                refine k_then ?_
                refine wc_seq ?_
                refine wc_drawA mixed ?_
                intro w202 hx13
                replace hr := hr.ext hx13
                replace hE := hE.tr hx13
                replace hb_g4 := hb_g4.ext hx13
                have hz_hx13 := hx13.size
                refine wa_main (Fam (BelS w202.heap.size [g4])) (fam1 (bels_ext)) (fam2 (bels_tr)) (fam3 (bels_ext) (bels_tr)) 0 13 [(56, eqv (.slice A l.length c)), (57, eqv (.int .i64 (↑(vget l).2.1 : Int))), (58, isCell (.int .u8 (↑(l.getD (vget l).2.1 0).toNat : Int))), (59, eqv (.int .u8 (↑(l.getD (vget l).2.1 0).toNat : Int))), (60, eqv (.slice A l.length c)), (61, eqv (.int .i64 (↑(vget l).2.1 : Int))), (62, eqv (.int .i64 ((↑(vget l).2.1 : Int) + 1))), (63, eqv (.int .i64 ((↑(vget l).2.1 : Int) + (↑(vget l).1 : Int)))), (64, isB 0 ((l.drop ((vget l).2.1 + 1)).take ((vget l).1 - 1))), (65, isOwnB w202.heap.size 5 ((l.drop ((vget l).2.1 + 1)).take ((vget l).1 - 1))), (66, (fun v w => ∃ A65 c65, v = (.agg #[(.int .u8 (↑(l.getD (vget l).2.1 0).toNat : Int)), (.slice A65 ((l.drop ((vget l).2.1 + 1)).take ((vget l).1 - 1)).length c65)]) ∧ OwnB w w202.heap.size 5 A65 c65 ((l.drop ((vget l).2.1 + 1)).take ((vget l).1 - 1)))), (67, eqv (.int .i64 ((↑(vget l).2.1 : Int) + (↑(vget l).1 : Int)))), (80, (fun _ w => ∃ A65 c65, Blk w g4 72 [(.int .u8 (↑(l.getD (vget l).2.1 0).toNat : Int)), (.slice A65 ((l.drop ((vget l).2.1 + 1)).take ((vget l).1 - 1)).length c65)] ∧ OwnB w w202.heap.size 5 A65 c65 ((l.drop ((vget l).2.1 + 1)).take ((vget l).1 - 1))))] [[], [], [0, 1], [2], [], [], [5], [], [4, 6, 7], [8], [3, 9], [], [10]] [[0], [0], [], [0], [0], [0], [0], [0], [], [], [], [0], []] [[0], [0], [0], [0], [0], [0], [0], [0], [0], [0], [0], [0], [0]] [none, none, none, none, none, none, none, none, none, none, none, none, some 0] [true, true, false, true, true, true, true, true, false, false, false, true, true] [0] _ [] [] (fun _ _ h => h) trivial (by kernel_rfl) rfl ⟨stbA (fun _ => stb_eqv _) _, stbA (fun _ => stb_eqv _) _, stb0 (stb_isCell _), stbA (fun _ => stb_eqv _) _, stbA (fun _ => stb_eqv _) _, stbA (fun _ => stb_eqv _) _, stbA (fun _ => stb_eqv _) _, stbA (fun _ => stb_eqv _) _, stb0 (stb_isB _ _), stb0 (stb_isOwnB _ _ _), stb0 ((fun v w w' ⟨A65, c65, hb, ho65⟩ he => ⟨A65, c65, hb, Own.ext ho65 he⟩)), stbA (fun _ => stb_eqv _) _, stb0 ((fun _ w w' ⟨A65, c65, hb, ho65⟩ he => ⟨A65, c65, hb.ext he, Own.ext ho65 he⟩)), trivial⟩ ⟨?_, ?_, ?_, ?_, ?_, ?_, ?_, ?_, ?_, ?_, ?_, ?_, ?_, trivial⟩ ?_
                · intro wd hxE
                  have hk_hxE := bels_out hxE
                  obtain ⟨cs_g4, hcs_g4, hb_g4⟩ := bels_blk hxE (by simp) hb_g4
                  have hz_hk_hxE := hk_hxE.size
                  replace hr := hk_hxE.rd hr (by intro g hg; simp at hg; omega)
                  replace hE := hk_hxE.e0 hE (by intro g hg; simp at hg; omega)
                  show OpG _ _ _ _ _ _
                  exact og_plain rfl (ox_val (ov_move rfl))
                · intro wd hxE
                  have hk_hxE := bels_out hxE
                  obtain ⟨cs_g4, hcs_g4, hb_g4⟩ := bels_blk hxE (by simp) hb_g4
                  have hz_hk_hxE := hk_hxE.size
                  replace hr := hk_hxE.rd hr (by intro g hg; simp at hg; omega)
                  replace hE := hk_hxE.e0 hE (by intro g hg; simp at hg; omega)
                  show OpG _ _ _ _ _ _
                  exact og_plain rfl (ox_val (ov_move rfl))
                · intro wd hxE
                  have hk_hxE := bels_out hxE
                  obtain ⟨cs_g4, hcs_g4, hb_g4⟩ := bels_blk hxE (by simp) hb_g4
                  have hz_hk_hxE := hk_hxE.size
                  replace hr := hk_hxE.rd hr (by intro g hg; simp at hg; omega)
                  replace hE := hk_hxE.e0 hE (by intro g hg; simp at hg; omega)
                  rintro _ rfl
                  rintro _ rfl
                  show OpG _ _ _ _ _ _
                  refine og_plain rfl (OpRun.mono (or_bindex bt26 rfl rfl hr (by omega) (by omega)) ?_)
                  rintro v _ ⟨rfl, p58, rfl, hp58, hpl58, hph58⟩
                  replace hp58 : World.cell? _ p58 = some (u8v (l.getD (vget l).2.1 0)) := hp58
                  exact ⟨⟨p58, rfl, hp58⟩, ext_refl _⟩
                · intro wd hxE
                  have hk_hxE := bels_out hxE
                  obtain ⟨cs_g4, hcs_g4, hb_g4⟩ := bels_blk hxE (by simp) hb_g4
                  have hz_hk_hxE := hk_hxE.size
                  replace hr := hk_hxE.rd hr (by intro g hg; simp at hg; omega)
                  replace hE := hk_hxE.e0 hE (by intro g hg; simp at hg; omega)
                  rintro _ ⟨p58, rfl, hp58⟩
                  show OpG _ _ _ _ _ _
                  exact og_plain rfl (ox_val (ov_load oc5 rfl hp58))
                · intro wd hxE
                  have hk_hxE := bels_out hxE
                  obtain ⟨cs_g4, hcs_g4, hb_g4⟩ := bels_blk hxE (by simp) hb_g4
                  have hz_hk_hxE := hk_hxE.size
                  replace hr := hk_hxE.rd hr (by intro g hg; simp at hg; omega)
                  replace hE := hk_hxE.e0 hE (by intro g hg; simp at hg; omega)
                  show OpG _ _ _ _ _ _
                  exact og_plain rfl (ox_val (ov_move rfl))
                · intro wd hxE
                  have hk_hxE := bels_out hxE
                  obtain ⟨cs_g4, hcs_g4, hb_g4⟩ := bels_blk hxE (by simp) hb_g4
                  have hz_hk_hxE := hk_hxE.size
                  replace hr := hk_hxE.rd hr (by intro g hg; simp at hg; omega)
                  replace hE := hk_hxE.e0 hE (by intro g hg; simp at hg; omega)
                  show OpG _ _ _ _ _ _
                  exact og_plain rfl (ox_val (ov_move rfl))
                · intro wd hxE
                  have hk_hxE := bels_out hxE
                  obtain ⟨cs_g4, hcs_g4, hb_g4⟩ := bels_blk hxE (by simp) hb_g4
                  have hz_hk_hxE := hk_hxE.size
                  replace hr := hk_hxE.rd hr (by intro g hg; simp at hg; omega)
                  replace hE := hk_hxE.e0 hE (by intro g hg; simp at hg; omega)
                  rintro _ rfl
                  show OpG _ _ _ _ _ _
                  exact og_plain rfl (ox_val (ov_add rfl rfl (wi64 (by omega) (by omega))))
                · intro wd hxE
                  have hk_hxE := bels_out hxE
                  obtain ⟨cs_g4, hcs_g4, hb_g4⟩ := bels_blk hxE (by simp) hb_g4
                  have hz_hk_hxE := hk_hxE.size
                  replace hr := hk_hxE.rd hr (by intro g hg; simp at hg; omega)
                  replace hE := hk_hxE.e0 hE (by intro g hg; simp at hg; omega)
                  show OpG _ _ _ _ _ _
                  exact og_plain rfl (ox_val (ov_move rfl))
                · intro wd hxE
                  have hk_hxE := bels_out hxE
                  obtain ⟨cs_g4, hcs_g4, hb_g4⟩ := bels_blk hxE (by simp) hb_g4
                  have hz_hk_hxE := hk_hxE.size
                  replace hr := hk_hxE.rd hr (by intro g hg; simp at hg; omega)
                  replace hE := hk_hxE.e0 hE (by intro g hg; simp at hg; omega)
                  rintro _ rfl
                  rintro _ rfl
                  rintro _ rfl
                  show OpG _ _ _ _ _ _
                  have hcap64 := RdB.cap hr
                  refine og_plain rfl (OpRun.mono (or_bslice bt26 rfl hr (bounds_lh rfl rfl (by omega) (by omega) (by omega)) (by omega) (by omega) (by omega) (by omega)) ?_)
                  rintro v _ ⟨rfl, A64, c64, rfl, hr64, hl64⟩
                  have hs64 : (l.drop (Int.toNat ((↑(vget l).2.1 : Int) + 1))).take ((Int.toNat ((↑(vget l).2.1 : Int) + (↑(vget l).1 : Int))) - (Int.toNat ((↑(vget l).2.1 : Int) + 1))) = ((l.drop ((vget l).2.1 + 1)).take ((vget l).1 - 1)) := cut_eq l (by omega) (by omega)
                  rw [hs64] at hr64 hl64; rw [hs64]; clear hs64
                  exact ⟨⟨A64, c64, rfl, (Rd.top hr64).mono (Nat.zero_le _) (Nat.le_refl _)⟩, ext_refl _⟩
                · intro wd hxE
                  have hk_hxE := bels_out hxE
                  obtain ⟨cs_g4, hcs_g4, hb_g4⟩ := bels_blk hxE (by simp) hb_g4
                  have hz_hk_hxE := hk_hxE.size
                  replace hr := hk_hxE.rd hr (by intro g hg; simp at hg; omega)
                  replace hE := hk_hxE.e0 hE (by intro g hg; simp at hg; omega)
                  rintro _ ⟨A64, c64, rfl, hr64⟩
                  show OpG _ _ _ _ _ _
                  have hln : ((l.drop ((vget l).2.1 + 1)).take ((vget l).1 - 1)).length ≤ l.length := by simp; omega
                  refine og_plain rfl (OpRun.mono (or_call0 cl65 rfl rfl (byclone_any _ _ _ _ _ _ hr64 (by omega))) ?_)
                  rintro v w203 ⟨A65, c65, rfl, ho65, he65⟩
                  replace hr := hr.ext he65
                  replace hE := hE.tr he65
                  replace hr64 := hr64.ext he65
                  have hz_he65 := he65.size
                  have hq_ho65 := fun g e => Own.lt ho65 (g := g) e
                  exact ⟨⟨A65, c65, rfl, Own.mono ho65 (by omega)⟩, he65⟩
                · intro wd hxE
                  have hk_hxE := bels_out hxE
                  obtain ⟨cs_g4, hcs_g4, hb_g4⟩ := bels_blk hxE (by simp) hb_g4
                  have hz_hk_hxE := hk_hxE.size
                  replace hr := hk_hxE.rd hr (by intro g hg; simp at hg; omega)
                  replace hE := hk_hxE.e0 hE (by intro g hg; simp at hg; omega)
                  rintro _ rfl
                  rintro _ ⟨A65, c65, rfl, ho65⟩
                  show OpG _ _ _ _ _ _
                  refine og_plain rfl (OpRun.mono (ov_build (cs := [(.int .u8 (↑(l.getD (vget l).2.1 0).toNat : Int)), (.slice A65 ((l.drop ((vget l).2.1 + 1)).take ((vget l).1 - 1)).length c65)]) ze72 pl72 rfl rfl) ?_)
                  rintro v _ ⟨rfl, rfl⟩
                  exact ⟨⟨A65, c65, rfl, ho65⟩, ext_refl _⟩
                · intro wd hxE
                  have hk_hxE := bels_out hxE
                  obtain ⟨cs_g4, hcs_g4, hb_g4⟩ := bels_blk hxE (by simp) hb_g4
                  have hz_hk_hxE := hk_hxE.size
                  replace hr := hk_hxE.rd hr (by intro g hg; simp at hg; omega)
                  replace hE := hk_hxE.e0 hE (by intro g hg; simp at hg; omega)
                  show OpG _ _ _ _ _ _
                  exact og_plain rfl (ox_val (ov_move rfl))
                · intro wd hxE
                  have hk_hxE := bels_out hxE
                  obtain ⟨cs_g4, hcs_g4, hb_g4⟩ := bels_blk hxE (by simp) hb_g4
                  have hz_hk_hxE := hk_hxE.size
                  replace hr := hk_hxE.rd hr (by intro g hg; simp at hg; omega)
                  replace hE := hk_hxE.e0 hE (by intro g hg; simp at hg; omega)
                  rintro _ ⟨A65, c65, rfl, ho65⟩
                  show OpG _ _ _ _ _ _
                  have hb0 := hb_g4
                  refine og_plain rfl (OpRun.mono (or_storeBlk (vs := [(.int .u8 (↑(l.getD (vget l).2.1 0).toNat : Int)), (.slice A65 ((l.drop ((vget l).2.1 + 1)).take ((vget l).1 - 1)).length c65)]) sz72 rfl rfl (by simp [Value.oneCell']) hb_g4 hcs_g4) ?_)
                  rintro _ w203 ⟨hN203, hg203⟩
                  have hz_hg203 := hg203.size
                  replace hr := hr.gr hg203 (fun _ e => by cases e; omega)
                  replace hE := hE.gr hg203 (fun _ e => by cases e; omega)
                  replace ho65 := Own.gr ho65 hg203 (by first | exact .inl rfl | (right; intro e; first | (have := hq_ho65 _ e; omega) | (have := Own.lt ho65 e; omega) | exact own_blk_ne ho65 hb_g4 (by decide) e))
                  replace hb_g4 := hN203
                  exact ⟨⟨A65, c65, hb_g4, ho65⟩, bels_store hg203 (by simp) hb0 hb_g4 hcs_g4⟩
                · intro wf13 hf13
                  have hk_hf13 := bels_out hf13
                  obtain ⟨cs_g4, hcs_g4, hb_g4⟩ := bels_blk hf13 (by simp) hb_g4
                  have hz_hk_hf13 := hk_hf13.size
                  replace hr := hk_hf13.rd hr (by intro g hg; simp at hg; omega)
                  replace hE := hk_hf13.e0 hE (by intro g hg; simp at hg; omega)
                  rintro _ rfl
                  rintro _ rfl
                  intro v58
                  rintro _ rfl
                  rintro _ rfl
                  rintro _ rfl
                  rintro _ rfl
                  rintro _ rfl
                  intro v64
                  intro v65
                  intro v66
                  rintro _ rfl
                  rintro _ ⟨A65, c65, hb_g4, ho65⟩
                  have hq_ho65 := fun g e => Own.lt ho65 (g := g) e
                  refine wa_tail (by kernel_rfl) ?_
                  show WL _ _ _ [_, _] _ _ _
                  refine wl_val (ov_assign rfl) rfl rfl rfl ?_
                  refine wl_val (ov_assign rfl) rfl rfl rfl ?_
                  refine q_nil ?_
                  refine k_then ?_
                  refine q_ret ?_
                  refine e_retL (rs := [.cell 4 72, .tmp 5, .tmp 6]) (vs := [.agg #[(.int .u8 (↑(l.getD (vget l).2.1 0).toNat : Int)), (.slice A65 ((l.drop ((vget l).2.1 + 1)).take ((vget l).1 - 1)).length c65)], (.int .i64 ((↑(vget l).2.1 : Int) + (↑(vget l).1 : Int))), (.int .i64 0)]) rfl ⟨⟨_, _, [(.int .u8 (↑(l.getD (vget l).2.1 0).toNat : Int)), (.slice A65 ((l.drop ((vget l).2.1 + 1)).take ((vget l).1 - 1)).length c65)], rfl, ag72_2, hb_g4, rfl⟩, rfl, rfl, trivial⟩ ?_
                  first
                    | exact fread_mk (x := 0) (p := []) (s := 0) (e := 2) (fread_arg (by omega)) (Own.nil_ _ _ _ _) hE
                    | exact fread_mk (x := 0) (p := []) (s := 0) (e := 5) (fread_long (by omega) (by omega) (by omega)) (Own.nil_ _ _ _ _) hE
                    | exact fread_mk (x := 0) (p := []) (s := 0) (e := 6) (fread_fmt (by omega) (by omega) (by omega)) (Own.nil_ _ _ _ _) hE
                    | exact fread_mk (x := 0) (p := []) (s := 0) (e := 4) (fread_short (by omega) (by omega) (by omega) (by omega) (by omega)) (Own.nil_ _ _ _ _) hE
                    | exact fread_mk (x := 0) (p := []) (s := 0) (e := 4) (fread_short0 (by omega) (by omega)) (Own.nil_ _ _ _ _) hE
                    | (rw [show (((vget l).2.2 : Nat) : Int) = 4 by omega]; exact fread_mk (x := 0) (p := []) (s := 0) (e := 4) (fread_short0 (by omega) (by omega)) (Own.nil_ _ _ _ _) hE)
                    | exact fread_mk (s := (vget l).2.1 + (vget l).1) (e := 0) (fread_ok (by omega) (by omega) (by omega) (by omega) (by omega)) (Own.mono ho65 (by omega)) hE

theorem rfread_any (w : World) (lo hi : Nat) (A : Option Addr) (c : Nat) (l : List UInt8) (most : Int) (hm1 : -9223372036854775808 ≤ most) (hm : most ≤ 9223372036854775807) (hr : RdB w lo hi A c l) (hlen : l.length ≤ 140737488355328) :
    Fn Try.prog 64 #[(.slice A l.length c), (.int .i64 most)] w (FRead w l most) := by
  replace hr := hr.top
  have hcap := RdB.cap hr
  have hE := ext_refl w
  have hn := vget_lt l
  have hs := vget_size l
  have hbad := vget_bad l
  refine fn_enter (args := [(.slice A l.length c), (.int .i64 most)]) Try.func64 rfl rfl rfl ?_
  show WC _ _ _ _ [(0, (.slice A l.length c)), (1, (.int .i64 most))] _
  refine wc_seq ?_
  refine wc_regionL ?_
  refine wl_step (or_alloc (cs := [(.int .u8 0), (.slice none 0 0)]) ze72 rfl) rfl rfl rfl ?_
  rintro v w1 ⟨g4, rfl, hb_g4, he4, hl4, hu4⟩
  replace hr := hr.ext he4
  replace hE := hE.tr he4
  have hz_he4 := he4.size
  refine wl_val (ov_assign rfl) rfl rfl rfl ?_
  refine wl_val (ov_assign rfl) rfl rfl rfl ?_
  refine q_nil ?_
  refine k_then ?_
  refine wc_seq ?_
  refine wc_seq ?_
  refine wc_regionL ?_
  refine wl_val (ov_move rfl) rfl rfl rfl ?_
  refine wl_val (ov_lss rfl rfl) rfl rfl rfl ?_
  refine wl_case_d (d := 12) rfl (fun h12 => ?_) (fun h12 => ?_)
  · refine wl_val (ov_move rfl) rfl rfl rfl ?_
    refine wl_gskip rfl rfl rfl rfl rfl rfl ?_
    refine wl_gskip rfl rfl rfl rfl rfl rfl ?_
    refine wl_val (ov_pick_t rfl rfl) rfl rfl rfl ?_
    refine q_nil ?_
    refine k_then ?_
    refine wc_cond_t rfl ?_
    refine wc_seq ?_
    refine wc_regionL ?_
    refine wl_val (ov_build (cs := [(.int .u8 0), (.slice none 0 0)]) ze72 pl72 rfl rfl) rfl rfl rfl ?_
    refine wl_step0 (or_storeBlk (vs := [(.int .u8 0), (.slice none 0 0)]) sz72 rfl rfl (by simp [Value.oneCell']) hb_g4 rfl) rfl rfl ?_
    rintro _ w2 ⟨hN2, hg2⟩
    have hz_hg2 := hg2.size
    replace hr := hr.gr hg2 (fun _ e => by cases e; omega)
    replace hE := hE.gr hg2 (fun _ e => by cases e; omega)
    replace hb_g4 := hN2
    refine wl_val (ov_assign rfl) rfl rfl rfl ?_
    refine wl_val (ov_assign rfl) rfl rfl rfl ?_
    refine q_nil ?_
    refine k_then ?_
    refine q_ret ?_
    refine k_thenR ?_
    refine e_retL (rs := [.cell 4 72, .tmp 5, .tmp 6]) (vs := [.agg #[(.int .u8 0), (.slice none 0 0)], (.int .i64 0), (.int .i64 2)]) rfl ⟨⟨_, _, [(.int .u8 0), (.slice none 0 0)], rfl, ag72_2, hb_g4, rfl⟩, rfl, rfl, trivial⟩ ?_
    first
      | exact fread_mk (x := 0) (p := []) (s := 0) (e := 2) (fread_arg (by omega)) (Own.nil_ _ _ _ _) hE
      | exact fread_mk (x := 0) (p := []) (s := 0) (e := 5) (fread_long (by omega) (by omega) (by omega)) (Own.nil_ _ _ _ _) hE
      | exact fread_mk (x := 0) (p := []) (s := 0) (e := 6) (fread_fmt (by omega) (by omega) (by omega)) (Own.nil_ _ _ _ _) hE
      | exact fread_mk (x := 0) (p := []) (s := 0) (e := 4) (fread_short (by omega) (by omega) (by omega) (by omega) (by omega)) (Own.nil_ _ _ _ _) hE
      | exact fread_mk (x := 0) (p := []) (s := 0) (e := 4) (fread_short0 (by omega) (by omega)) (Own.nil_ _ _ _ _) hE
      | (rw [show (((vget l).2.2 : Nat) : Int) = 4 by omega]; exact fread_mk (x := 0) (p := []) (s := 0) (e := 4) (fread_short0 (by omega) (by omega)) (Own.nil_ _ _ _ _) hE)
      | exact fread_mk (s := (vget l).2.1 + (vget l).1) (e := 0) (fread_ok (by omega) (by omega) (by omega) (by omega) (by omega)) (Own.mono ho55 (by omega)) hE
  · refine wl_val (ov_move rfl) rfl rfl rfl ?_
    refine wl_gval (ov_move rfl) rfl rfl rfl rfl rfl ?_
    refine wl_gval (ov_gtr rfl rfl) rfl rfl rfl rfl rfl ?_
    refine wl_val (ov_pick_f rfl rfl) rfl rfl rfl ?_
    refine q_nil ?_
    refine k_then ?_
    refine wc_cond_d rfl (fun hc1 => ?_) (fun hc1 => ?_)
    · refine wc_seq ?_
      refine wc_regionL ?_
      refine wl_val (ov_build (cs := [(.int .u8 0), (.slice none 0 0)]) ze72 pl72 rfl rfl) rfl rfl rfl ?_
      refine wl_step0 (or_storeBlk (vs := [(.int .u8 0), (.slice none 0 0)]) sz72 rfl rfl (by simp [Value.oneCell']) hb_g4 rfl) rfl rfl ?_
      rintro _ w202 ⟨hN202, hg202⟩
      have hz_hg202 := hg202.size
      replace hr := hr.gr hg202 (fun _ e => by cases e; omega)
      replace hE := hE.gr hg202 (fun _ e => by cases e; omega)
      replace hb_g4 := hN202
      refine wl_val (ov_assign rfl) rfl rfl rfl ?_
      refine wl_val (ov_assign rfl) rfl rfl rfl ?_
      refine q_nil ?_
      refine k_then ?_
      refine q_ret ?_
      refine k_thenR ?_
      refine e_retL (rs := [.cell 4 72, .tmp 5, .tmp 6]) (vs := [.agg #[(.int .u8 0), (.slice none 0 0)], (.int .i64 0), (.int .i64 2)]) rfl ⟨⟨_, _, [(.int .u8 0), (.slice none 0 0)], rfl, ag72_2, hb_g4, rfl⟩, rfl, rfl, trivial⟩ ?_
      first
        | exact fread_mk (x := 0) (p := []) (s := 0) (e := 2) (fread_arg (by omega)) (Own.nil_ _ _ _ _) hE
        | exact fread_mk (x := 0) (p := []) (s := 0) (e := 5) (fread_long (by omega) (by omega) (by omega)) (Own.nil_ _ _ _ _) hE
        | exact fread_mk (x := 0) (p := []) (s := 0) (e := 6) (fread_fmt (by omega) (by omega) (by omega)) (Own.nil_ _ _ _ _) hE
        | exact fread_mk (x := 0) (p := []) (s := 0) (e := 4) (fread_short (by omega) (by omega) (by omega) (by omega) (by omega)) (Own.nil_ _ _ _ _) hE
        | exact fread_mk (x := 0) (p := []) (s := 0) (e := 4) (fread_short0 (by omega) (by omega)) (Own.nil_ _ _ _ _) hE
        | (rw [show (((vget l).2.2 : Nat) : Int) = 4 by omega]; exact fread_mk (x := 0) (p := []) (s := 0) (e := 4) (fread_short0 (by omega) (by omega)) (Own.nil_ _ _ _ _) hE)
        | exact fread_mk (s := (vget l).2.1 + (vget l).1) (e := 0) (fread_ok (by omega) (by omega) (by omega) (by omega) (by omega)) (Own.mono ho55 (by omega)) hE
    · refine q_skip ?_
      refine k_then ?_
      refine wc_seq ?_
      refine wc_regionL ?_
      refine wl_val (ov_move rfl) rfl rfl rfl ?_
      refine wl_val (or_call0 cl66 rfl rfl (rget_any _ _ _ _ _ l hr)) rfl rfl rfl ?_
      refine wl_val (ov_move rfl) rfl rfl rfl ?_
      refine wl_val (ov_extract rfl rfl) rfl rfl rfl ?_
      refine wl_val (ov_extract rfl rfl) rfl rfl rfl ?_
      refine wl_val (ov_extract rfl rfl) rfl rfl rfl ?_
      refine wl_val (ov_assign rfl) rfl rfl rfl ?_
      refine wl_val (ov_assign rfl) rfl rfl rfl ?_
      refine wl_val (ov_assign rfl) rfl rfl rfl ?_
      refine q_nil ?_
      refine k_then ?_
      refine wc_seq ?_
      refine wc_seq ?_
      refine wc_regionL ?_
      refine wl_val (ov_move rfl) rfl rfl rfl ?_
      refine wl_val (ov_eql rfl rfl) rfl rfl rfl ?_
      refine q_nil ?_
      refine k_then ?_
      refine wc_cond_d rfl (fun hc2 => ?_) (fun hc2 => ?_)
      · refine wc_seq ?_
        refine wc_regionL ?_
        refine wl_val (ov_build (cs := [(.int .u8 0), (.slice none 0 0)]) ze72 pl72 rfl rfl) rfl rfl rfl ?_
        refine wl_step0 (or_storeBlk (vs := [(.int .u8 0), (.slice none 0 0)]) sz72 rfl rfl (by simp [Value.oneCell']) hb_g4 rfl) rfl rfl ?_
        rintro _ w202 ⟨hN202, hg202⟩
        have hz_hg202 := hg202.size
        replace hr := hr.gr hg202 (fun _ e => by cases e; omega)
        replace hE := hE.gr hg202 (fun _ e => by cases e; omega)
        replace hb_g4 := hN202
        refine wl_val (ov_assign rfl) rfl rfl rfl ?_
        refine wl_val (ov_assign rfl) rfl rfl rfl ?_
        refine q_nil ?_
        refine k_then ?_
        refine q_ret ?_
        refine k_thenR ?_
        refine e_retL (rs := [.cell 4 72, .tmp 5, .tmp 6]) (vs := [.agg #[(.int .u8 0), (.slice none 0 0)], (.int .i64 0), (.int .i64 4)]) rfl ⟨⟨_, _, [(.int .u8 0), (.slice none 0 0)], rfl, ag72_2, hb_g4, rfl⟩, rfl, rfl, trivial⟩ ?_
        first
          | exact fread_mk (x := 0) (p := []) (s := 0) (e := 2) (fread_arg (by omega)) (Own.nil_ _ _ _ _) hE
          | exact fread_mk (x := 0) (p := []) (s := 0) (e := 5) (fread_long (by omega) (by omega) (by omega)) (Own.nil_ _ _ _ _) hE
          | exact fread_mk (x := 0) (p := []) (s := 0) (e := 6) (fread_fmt (by omega) (by omega) (by omega)) (Own.nil_ _ _ _ _) hE
          | exact fread_mk (x := 0) (p := []) (s := 0) (e := 4) (fread_short (by omega) (by omega) (by omega) (by omega) (by omega)) (Own.nil_ _ _ _ _) hE
          | exact fread_mk (x := 0) (p := []) (s := 0) (e := 4) (fread_short0 (by omega) (by omega)) (Own.nil_ _ _ _ _) hE
          | (rw [show (((vget l).2.2 : Nat) : Int) = 4 by omega]; exact fread_mk (x := 0) (p := []) (s := 0) (e := 4) (fread_short0 (by omega) (by omega)) (Own.nil_ _ _ _ _) hE)
          | exact fread_mk (s := (vget l).2.1 + (vget l).1) (e := 0) (fread_ok (by omega) (by omega) (by omega) (by omega) (by omega)) (Own.mono ho55 (by omega)) hE
      · refine q_skip ?_
        refine k_then ?_
        refine wc_seq ?_
        refine wc_seq ?_
        refine wc_regionL ?_
        refine wl_val (ov_move rfl) rfl rfl rfl ?_
        refine wl_val (ov_neq rfl rfl) rfl rfl rfl ?_
        refine q_nil ?_
        refine k_then ?_
        refine wc_cond_d rfl (fun hc3 => ?_) (fun hc3 => ?_)
        · refine wc_seq ?_
          refine wc_regionL ?_
          refine wl_val (ov_build (cs := [(.int .u8 0), (.slice none 0 0)]) ze72 pl72 rfl rfl) rfl rfl rfl ?_
          refine wl_step0 (or_storeBlk (vs := [(.int .u8 0), (.slice none 0 0)]) sz72 rfl rfl (by simp [Value.oneCell']) hb_g4 rfl) rfl rfl ?_
          rintro _ w202 ⟨hN202, hg202⟩
          have hz_hg202 := hg202.size
          replace hr := hr.gr hg202 (fun _ e => by cases e; omega)
          replace hE := hE.gr hg202 (fun _ e => by cases e; omega)
          replace hb_g4 := hN202
          refine wl_val (ov_assign rfl) rfl rfl rfl ?_
          refine wl_val (ov_assign rfl) rfl rfl rfl ?_
          refine q_nil ?_
          refine k_then ?_
          refine q_ret ?_
          refine k_thenR ?_
          refine e_retL (rs := [.cell 4 72, .tmp 5, .tmp 6]) (vs := [.agg #[(.int .u8 0), (.slice none 0 0)], (.int .i64 0), (.int .i64 5)]) rfl ⟨⟨_, _, [(.int .u8 0), (.slice none 0 0)], rfl, ag72_2, hb_g4, rfl⟩, rfl, rfl, trivial⟩ ?_
          first
            | exact fread_mk (x := 0) (p := []) (s := 0) (e := 2) (fread_arg (by omega)) (Own.nil_ _ _ _ _) hE
            | exact fread_mk (x := 0) (p := []) (s := 0) (e := 5) (fread_long (by omega) (by omega) (by omega)) (Own.nil_ _ _ _ _) hE
            | exact fread_mk (x := 0) (p := []) (s := 0) (e := 6) (fread_fmt (by omega) (by omega) (by omega)) (Own.nil_ _ _ _ _) hE
            | exact fread_mk (x := 0) (p := []) (s := 0) (e := 4) (fread_short (by omega) (by omega) (by omega) (by omega) (by omega)) (Own.nil_ _ _ _ _) hE
            | exact fread_mk (x := 0) (p := []) (s := 0) (e := 4) (fread_short0 (by omega) (by omega)) (Own.nil_ _ _ _ _) hE
            | (rw [show (((vget l).2.2 : Nat) : Int) = 4 by omega]; exact fread_mk (x := 0) (p := []) (s := 0) (e := 4) (fread_short0 (by omega) (by omega)) (Own.nil_ _ _ _ _) hE)
            | exact fread_mk (s := (vget l).2.1 + (vget l).1) (e := 0) (fread_ok (by omega) (by omega) (by omega) (by omega) (by omega)) (Own.mono ho55 (by omega)) hE
        · refine q_skip ?_
          refine k_then ?_
          refine wc_seq ?_
          refine wc_seq ?_
          refine wc_regionL ?_
          refine wl_val (ov_move rfl) rfl rfl rfl ?_
          refine wl_val (ov_eql rfl rfl) rfl rfl rfl ?_
          refine q_nil ?_
          refine k_then ?_
          refine wc_cond_d rfl (fun hc4 => ?_) (fun hc4 => ?_)
          · refine wc_seq ?_
            refine wc_regionL ?_
            refine wl_val (ov_build (cs := [(.int .u8 0), (.slice none 0 0)]) ze72 pl72 rfl rfl) rfl rfl rfl ?_
            refine wl_step0 (or_storeBlk (vs := [(.int .u8 0), (.slice none 0 0)]) sz72 rfl rfl (by simp [Value.oneCell']) hb_g4 rfl) rfl rfl ?_
            rintro _ w202 ⟨hN202, hg202⟩
            have hz_hg202 := hg202.size
            replace hr := hr.gr hg202 (fun _ e => by cases e; omega)
            replace hE := hE.gr hg202 (fun _ e => by cases e; omega)
            replace hb_g4 := hN202
            refine wl_val (ov_assign rfl) rfl rfl rfl ?_
            refine wl_val (ov_assign rfl) rfl rfl rfl ?_
            refine q_nil ?_
            refine k_then ?_
            refine q_ret ?_
            refine k_thenR ?_
            refine e_retL (rs := [.cell 4 72, .tmp 5, .tmp 6]) (vs := [.agg #[(.int .u8 0), (.slice none 0 0)], (.int .i64 0), (.int .i64 6)]) rfl ⟨⟨_, _, [(.int .u8 0), (.slice none 0 0)], rfl, ag72_2, hb_g4, rfl⟩, rfl, rfl, trivial⟩ ?_
            first
              | exact fread_mk (x := 0) (p := []) (s := 0) (e := 2) (fread_arg (by omega)) (Own.nil_ _ _ _ _) hE
              | exact fread_mk (x := 0) (p := []) (s := 0) (e := 5) (fread_long (by omega) (by omega) (by omega)) (Own.nil_ _ _ _ _) hE
              | exact fread_mk (x := 0) (p := []) (s := 0) (e := 6) (fread_fmt (by omega) (by omega) (by omega)) (Own.nil_ _ _ _ _) hE
              | exact fread_mk (x := 0) (p := []) (s := 0) (e := 4) (fread_short (by omega) (by omega) (by omega) (by omega) (by omega)) (Own.nil_ _ _ _ _) hE
              | exact fread_mk (x := 0) (p := []) (s := 0) (e := 4) (fread_short0 (by omega) (by omega)) (Own.nil_ _ _ _ _) hE
              | (rw [show (((vget l).2.2 : Nat) : Int) = 4 by omega]; exact fread_mk (x := 0) (p := []) (s := 0) (e := 4) (fread_short0 (by omega) (by omega)) (Own.nil_ _ _ _ _) hE)
              | exact fread_mk (s := (vget l).2.1 + (vget l).1) (e := 0) (fread_ok (by omega) (by omega) (by omega) (by omega) (by omega)) (Own.mono ho55 (by omega)) hE
          · refine q_skip ?_
            refine k_then ?_
            refine wc_seq ?_
            refine wc_seq ?_
            refine wc_regionL ?_
            refine wl_val (ov_move rfl) rfl rfl rfl ?_
            refine wl_val (ov_sub rfl rfl (wu64 (by omega) (by omega))) rfl rfl rfl ?_
            refine wl_val (ov_move rfl) rfl rfl rfl ?_
            refine wl_val (ov_conv Try.underlying3 Try.underlying27 rfl (wu64 (by omega) (by omega))) rfl rfl rfl ?_
            refine wl_val (ov_gtr rfl rfl) rfl rfl rfl ?_
            refine q_nil ?_
            refine k_then ?_
            refine wc_cond_d rfl (fun hc5 => ?_) (fun hc5 => ?_)
            · refine wc_seq ?_
              refine wc_regionL ?_
              refine wl_val (ov_build (cs := [(.int .u8 0), (.slice none 0 0)]) ze72 pl72 rfl rfl) rfl rfl rfl ?_
              refine wl_step0 (or_storeBlk (vs := [(.int .u8 0), (.slice none 0 0)]) sz72 rfl rfl (by simp [Value.oneCell']) hb_g4 rfl) rfl rfl ?_
              rintro _ w202 ⟨hN202, hg202⟩
              have hz_hg202 := hg202.size
              replace hr := hr.gr hg202 (fun _ e => by cases e; omega)
              replace hE := hE.gr hg202 (fun _ e => by cases e; omega)
              replace hb_g4 := hN202
              refine wl_val (ov_assign rfl) rfl rfl rfl ?_
              refine wl_val (ov_assign rfl) rfl rfl rfl ?_
              refine q_nil ?_
              refine k_then ?_
              refine q_ret ?_
              refine k_thenR ?_
              refine e_retL (rs := [.cell 4 72, .tmp 5, .tmp 6]) (vs := [.agg #[(.int .u8 0), (.slice none 0 0)], (.int .i64 0), (.int .i64 5)]) rfl ⟨⟨_, _, [(.int .u8 0), (.slice none 0 0)], rfl, ag72_2, hb_g4, rfl⟩, rfl, rfl, trivial⟩ ?_
              first
                | exact fread_mk (x := 0) (p := []) (s := 0) (e := 2) (fread_arg (by omega)) (Own.nil_ _ _ _ _) hE
                | exact fread_mk (x := 0) (p := []) (s := 0) (e := 5) (fread_long (by omega) (by omega) (by omega)) (Own.nil_ _ _ _ _) hE
                | exact fread_mk (x := 0) (p := []) (s := 0) (e := 6) (fread_fmt (by omega) (by omega) (by omega)) (Own.nil_ _ _ _ _) hE
                | exact fread_mk (x := 0) (p := []) (s := 0) (e := 4) (fread_short (by omega) (by omega) (by omega) (by omega) (by omega)) (Own.nil_ _ _ _ _) hE
                | exact fread_mk (x := 0) (p := []) (s := 0) (e := 4) (fread_short0 (by omega) (by omega)) (Own.nil_ _ _ _ _) hE
                | (rw [show (((vget l).2.2 : Nat) : Int) = 4 by omega]; exact fread_mk (x := 0) (p := []) (s := 0) (e := 4) (fread_short0 (by omega) (by omega)) (Own.nil_ _ _ _ _) hE)
                | exact fread_mk (s := (vget l).2.1 + (vget l).1) (e := 0) (fread_ok (by omega) (by omega) (by omega) (by omega) (by omega)) (Own.mono ho55 (by omega)) hE
            · refine q_skip ?_
              refine k_then ?_
              refine wc_seq ?_
              refine wc_seq ?_
              refine wc_regionL ?_
              refine wl_val (ov_move rfl) rfl rfl rfl ?_
              refine wl_val (ov_len Try.underlying26 rfl) rfl rfl rfl ?_
              refine wl_val (ov_move rfl) rfl rfl rfl ?_
              refine wl_val (ov_sub rfl rfl (wi64 (by omega) (by omega))) rfl rfl rfl ?_
              refine wl_val (ov_conv Try.underlying3 Try.underlying27 rfl (wu64 (by omega) (by omega))) rfl rfl rfl ?_
              refine wl_val (ov_move rfl) rfl rfl rfl ?_
              refine wl_val (ov_lss rfl rfl) rfl rfl rfl ?_
              refine q_nil ?_
              refine k_then ?_
              refine wc_cond_d rfl (fun hc6 => ?_) (fun hc6 => ?_)
              · refine wc_seq ?_
                refine wc_regionL ?_
                refine wl_val (ov_build (cs := [(.int .u8 0), (.slice none 0 0)]) ze72 pl72 rfl rfl) rfl rfl rfl ?_
                refine wl_step0 (or_storeBlk (vs := [(.int .u8 0), (.slice none 0 0)]) sz72 rfl rfl (by simp [Value.oneCell']) hb_g4 rfl) rfl rfl ?_
                rintro _ w202 ⟨hN202, hg202⟩
                have hz_hg202 := hg202.size
                replace hr := hr.gr hg202 (fun _ e => by cases e; omega)
                replace hE := hE.gr hg202 (fun _ e => by cases e; omega)
                replace hb_g4 := hN202
                refine wl_val (ov_assign rfl) rfl rfl rfl ?_
                refine wl_val (ov_assign rfl) rfl rfl rfl ?_
                refine q_nil ?_
                refine k_then ?_
                refine q_ret ?_
                refine k_thenR ?_
                refine e_retL (rs := [.cell 4 72, .tmp 5, .tmp 6]) (vs := [.agg #[(.int .u8 0), (.slice none 0 0)], (.int .i64 0), (.int .i64 4)]) rfl ⟨⟨_, _, [(.int .u8 0), (.slice none 0 0)], rfl, ag72_2, hb_g4, rfl⟩, rfl, rfl, trivial⟩ ?_
                first
                  | exact fread_mk (x := 0) (p := []) (s := 0) (e := 2) (fread_arg (by omega)) (Own.nil_ _ _ _ _) hE
                  | exact fread_mk (x := 0) (p := []) (s := 0) (e := 5) (fread_long (by omega) (by omega) (by omega)) (Own.nil_ _ _ _ _) hE
                  | exact fread_mk (x := 0) (p := []) (s := 0) (e := 6) (fread_fmt (by omega) (by omega) (by omega)) (Own.nil_ _ _ _ _) hE
                  | exact fread_mk (x := 0) (p := []) (s := 0) (e := 4) (fread_short (by omega) (by omega) (by omega) (by omega) (by omega)) (Own.nil_ _ _ _ _) hE
                  | exact fread_mk (x := 0) (p := []) (s := 0) (e := 4) (fread_short0 (by omega) (by omega)) (Own.nil_ _ _ _ _) hE
                  | (rw [show (((vget l).2.2 : Nat) : Int) = 4 by omega]; exact fread_mk (x := 0) (p := []) (s := 0) (e := 4) (fread_short0 (by omega) (by omega)) (Own.nil_ _ _ _ _) hE)
                  | exact fread_mk (s := (vget l).2.1 + (vget l).1) (e := 0) (fread_ok (by omega) (by omega) (by omega) (by omega) (by omega)) (Own.mono ho55 (by omega)) hE
              · have hn2 : (vget l).1 ≤ l.length := by omega
                refine q_skip ?_
                refine k_then ?_
                refine wc_seq ?_
                refine wc_regionL ?_
                refine wl_val (ov_move rfl) rfl rfl rfl ?_
                refine wl_val (ov_move rfl) rfl rfl rfl ?_
                refine wl_val (ov_add rfl rfl (wi64 (by omega) (by omega))) rfl rfl rfl ?_
                refine wl_val (ov_move rfl) rfl rfl rfl ?_
                refine wl_val (ov_move rfl) rfl rfl rfl ?_
                refine wl_val (ov_conv Try.underlying27 Try.underlying3 rfl (wi64 (by omega) (by omega))) rfl rfl rfl ?_
                refine wl_val (ov_add rfl rfl (wi64 (by omega) (by omega))) rfl rfl rfl ?_
                have hcap54 := RdB.cap hr
                refine wl_step (or_bslice bt26 rfl hr (bounds_lh rfl rfl (by omega) (by omega) (by omega)) (by omega) (by omega) (by omega) (by omega)) rfl rfl rfl ?_
                rintro v _ ⟨rfl, A54, c54, rfl, hr54, hl54⟩
                have hs54 : (l.drop (Int.toNat ((↑(vget l).2.1 : Int) + 1))).take ((Int.toNat ((↑(vget l).2.1 : Int) + (↑(vget l).1 : Int))) - (Int.toNat ((↑(vget l).2.1 : Int) + 1))) = ((l.drop ((vget l).2.1 + 1)).take ((vget l).1 - 1)) := cut_eq l (by omega) (by omega)
                rw [hs54] at hr54 hl54; rw [hs54]; clear hs54
                have hln : ((l.drop ((vget l).2.1 + 1)).take ((vget l).1 - 1)).length ≤ l.length := by simp; omega
                refine wl_step (or_bappend0 bt26 rfl rfl hr54 (by omega)) rfl rfl rfl ?_
                rintro v w202 ⟨A55, c55, rfl, ho55, he55⟩
                replace hr := hr.ext he55
                replace hE := hE.tr he55
                replace hb_g4 := hb_g4.ext he55
                replace hr54 := hr54.ext he55
                have hz_he55 := he55.size
                have hq_ho55 := fun g e => Own.lt ho55 (g := g) e
                refine wl_val (ov_assign rfl) rfl rfl rfl ?_
                refine q_nil ?_
                refine k_then ?_
                refine wc_seq ?_
                refine wc_regionL ?_
                refine wl_val (ov_move rfl) rfl rfl rfl ?_
                refine wl_val (ov_move rfl) rfl rfl rfl ?_
                refine wl_step (or_bindex bt26 rfl rfl hr (by omega) (by omega)) rfl rfl rfl ?_
                rintro v _ ⟨rfl, p58, rfl, hp58, hpl58, hph58⟩
                replace hp58 : World.cell? _ p58 = some (u8v (l.getD (vget l).2.1 0)) := hp58
                refine wl_val (ov_load oc5 rfl hp58) rfl rfl rfl ?_
                refine wl_val (ov_move rfl) rfl rfl rfl ?_
                refine wl_val (ov_build (cs := [(.int .u8 (↑(l.getD (vget l).2.1 0).toNat : Int)), (.slice A55 ((l.drop ((vget l).2.1 + 1)).take ((vget l).1 - 1)).length c55)]) ze72 pl72 rfl rfl) rfl rfl rfl ?_
                refine wl_val (ov_move rfl) rfl rfl rfl ?_
                refine wl_val (ov_move rfl) rfl rfl rfl ?_
                refine wl_val (ov_conv Try.underlying27 Try.underlying3 rfl (wi64 (by omega) (by omega))) rfl rfl rfl ?_
                refine wl_val (ov_add rfl rfl (wi64 (by omega) (by omega))) rfl rfl rfl ?_
                refine wl_step0 (or_storeBlk (vs := [(.int .u8 (↑(l.getD (vget l).2.1 0).toNat : Int)), (.slice A55 ((l.drop ((vget l).2.1 + 1)).take ((vget l).1 - 1)).length c55)]) sz72 rfl rfl (by simp [Value.oneCell']) hb_g4 rfl) rfl rfl ?_
                rintro _ w203 ⟨hN203, hg203⟩
                have hz_hg203 := hg203.size
                replace hr := hr.gr hg203 (fun _ e => by cases e; omega)
                replace hE := hE.gr hg203 (fun _ e => by cases e; omega)
                replace hr54 := hr54.gr hg203 (fun _ e => by cases e; omega)
                replace ho55 := Own.gr ho55 hg203 (by first | exact .inl rfl | (right; intro e; first | (have := hq_ho55 _ e; omega) | (have := Own.lt ho55 e; omega) | exact own_blk_ne ho55 hb_g4 (by decide) e))
                replace hb_g4 := hN203
                refine wl_val (ov_assign rfl) rfl rfl rfl ?_
                refine wl_val (ov_assign rfl) rfl rfl rfl ?_
                refine q_nil ?_
                refine k_then ?_
                refine q_ret ?_
                refine e_retL (rs := [.cell 4 72, .tmp 5, .tmp 6]) (vs := [.agg #[(.int .u8 (↑(l.getD (vget l).2.1 0).toNat : Int)), (.slice A55 ((l.drop ((vget l).2.1 + 1)).take ((vget l).1 - 1)).length c55)], (.int .i64 ((↑(vget l).2.1 : Int) + (↑(vget l).1 : Int))), (.int .i64 0)]) rfl ⟨⟨_, _, [(.int .u8 (↑(l.getD (vget l).2.1 0).toNat : Int)), (.slice A55 ((l.drop ((vget l).2.1 + 1)).take ((vget l).1 - 1)).length c55)], rfl, ag72_2, hb_g4, rfl⟩, rfl, rfl, trivial⟩ ?_
                first
                  | exact fread_mk (x := 0) (p := []) (s := 0) (e := 2) (fread_arg (by omega)) (Own.nil_ _ _ _ _) hE
                  | exact fread_mk (x := 0) (p := []) (s := 0) (e := 5) (fread_long (by omega) (by omega) (by omega)) (Own.nil_ _ _ _ _) hE
                  | exact fread_mk (x := 0) (p := []) (s := 0) (e := 6) (fread_fmt (by omega) (by omega) (by omega)) (Own.nil_ _ _ _ _) hE
                  | exact fread_mk (x := 0) (p := []) (s := 0) (e := 4) (fread_short (by omega) (by omega) (by omega) (by omega) (by omega)) (Own.nil_ _ _ _ _) hE
                  | exact fread_mk (x := 0) (p := []) (s := 0) (e := 4) (fread_short0 (by omega) (by omega)) (Own.nil_ _ _ _ _) hE
                  | (rw [show (((vget l).2.2 : Nat) : Int) = 4 by omega]; exact fread_mk (x := 0) (p := []) (s := 0) (e := 4) (fread_short0 (by omega) (by omega)) (Own.nil_ _ _ _ _) hE)
                  | exact fread_mk (s := (vget l).2.1 + (vget l).1) (e := 0) (fread_ok (by omega) (by omega) (by omega) (by omega) (by omega)) (Own.mono ho55 (by omega)) hE

theorem rfequal_any (w : World) (lo hi lo2 hi2 : Nat) (x : UInt8) (A : Option Addr) (c : Nat) (p : List UInt8) (y : UInt8) (B : Option Addr) (c2 : Nat) (q : List UInt8) (hr : RdB w lo hi A c p) (hr2 : RdB w lo2 hi2 B c2 q) :
    Fn Try.prog 46 #[(.agg #[(.int .u8 (↑x.toNat : Int)), (.slice A p.length c)]), (.agg #[(.int .u8 (↑y.toNat : Int)), (.slice B q.length c2)])] w (fun v w' => v = .bool (decide ((x, p) = (y, q))) ∧ Ext w w') := by
  replace hr := hr.top
  replace hr2 := hr2.top
  have hE := ext_refl w
  refine fn_enter (args := [(.agg #[(.int .u8 (↑x.toNat : Int)), (.slice A p.length c)]), (.agg #[(.int .u8 (↑y.toNat : Int)), (.slice B q.length c2)])]) Try.func46 rfl rfl rfl ?_
  show WC _ _ _ _ [(0, (.agg #[(.int .u8 (↑x.toNat : Int)), (.slice A p.length c)])), (1, (.agg #[(.int .u8 (↑y.toNat : Int)), (.slice B q.length c2)]))] _
  refine wc_seq ?_
  refine wc_regionL ?_
  refine wl_step (or_box (cs := [(.int .u8 (↑x.toNat : Int)), (.slice A p.length c)]) rfl rfl) rfl rfl rfl ?_
  rintro v w1 ⟨g2, rfl, hb_g2, he2, hl2, hu2⟩
  replace hr := hr.ext he2
  replace hr2 := hr2.ext he2
  replace hE := hE.tr he2
  have hz_he2 := he2.size
  refine wl_step (or_box (cs := [(.int .u8 (↑y.toNat : Int)), (.slice B q.length c2)]) rfl rfl) rfl rfl rfl ?_
  rintro v w2 ⟨g3, rfl, hb_g3, he3, hl3, hu3⟩
  replace hr := hr.ext he3
  replace hr2 := hr2.ext he3
  replace hE := hE.tr he3
  replace hb_g2 := hb_g2.ext he3
  have hz_he3 := he3.size
  refine wl_val (ov_assign rfl) rfl rfl rfl ?_
  refine q_nil ?_
  refine k_then ?_
  refine wc_seq ?_
  refine wc_regionL ?_
  refine wl_val (ov_field0 (off := 0) fo72_0 rfl) rfl rfl rfl ?_
  refine wl_val (ov_loadAt oc5 rfl hb_g2 rfl) rfl rfl rfl ?_
  refine wl_val (ov_field0 (off := 0) fo72_0 rfl) rfl rfl rfl ?_
  refine wl_val (ov_loadAt oc5 rfl hb_g3 rfl) rfl rfl rfl ?_
  refine wl_val (ov_eql rfl rfl) rfl rfl rfl ?_
  refine wl_case_d (d := 9) rfl (fun hxy => ?_) (fun hxy => ?_)
  · refine wl_val (ov_move rfl) rfl rfl rfl ?_
    refine wl_gval (ov_field0 (off := 1) fo72_1 rfl) rfl rfl rfl rfl rfl ?_
    refine wl_gval (ov_loadAt oc26 rfl hb_g2 rfl) rfl rfl rfl rfl rfl ?_
    refine wl_gval (ov_bstr bt26 Try.underlying9 rfl hr) rfl rfl rfl rfl rfl ?_
    refine wl_gval (ov_field0 (off := 1) fo72_1 rfl) rfl rfl rfl rfl rfl ?_
    refine wl_gval (ov_loadAt oc26 rfl hb_g3 rfl) rfl rfl rfl rfl rfl ?_
    refine wl_gval (ov_bstr bt26 Try.underlying9 rfl hr2) rfl rfl rfl rfl rfl ?_
    refine wl_gval (ov_seq rfl rfl) rfl rfl rfl rfl rfl ?_
    refine wl_val (ov_pick_t rfl rfl) rfl rfl rfl ?_
    refine wl_val (ov_assign rfl) rfl rfl rfl ?_
    refine q_nil ?_
    refine k_then ?_
    refine q_ret ?_
    refine e_ret rfl rfl ?_
    refine ⟨?_, hE⟩
    congr 1
    rw [decide_eq_decide]
    exact ⟨fun h => Prod.ext (toNat_inj hxy) h, fun h => congrArg Prod.snd h⟩
  · refine wl_val (ov_move rfl) rfl rfl rfl ?_
    refine wl_gskip rfl rfl rfl rfl rfl rfl ?_
    refine wl_gskip rfl rfl rfl rfl rfl rfl ?_
    refine wl_gskip rfl rfl rfl rfl rfl rfl ?_
    refine wl_gskip rfl rfl rfl rfl rfl rfl ?_
    refine wl_gskip rfl rfl rfl rfl rfl rfl ?_
    refine wl_gskip rfl rfl rfl rfl rfl rfl ?_
    refine wl_gskip rfl rfl rfl rfl rfl rfl ?_
    refine wl_val (ov_pick_f rfl rfl) rfl rfl rfl ?_
    refine wl_val (ov_assign rfl) rfl rfl rfl ?_
    refine q_nil ?_
    refine k_then ?_
    refine q_ret ?_
    refine e_ret rfl rfl ?_
    refine ⟨(bf fun h => hxy (by rw [show x = y from congrArg Prod.fst h])).symm, hE⟩

end Go.Proofs.Ytopfjpkjpmdhaaa
