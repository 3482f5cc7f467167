/-
 The reference: Write.
-/
import Derived.Test.YtiighkbehiddkaaGreatRl
namespace Go.Proofs.YtiighkbehiddkaaGreat
open Go.RowKit
set_option linter.unusedVariables false
set_option maxRecDepth 4000
theorem cl78 : callable Tryz.prog 78 = true := by kernel_rfl
theorem cl79 : callable Tryz.prog 79 = true := by kernel_rfl
def vsum (xs : List Itm) : Nat := (xs.map fun x => x.value.length).sum
theorem vsum_rsz (r : Rsp) : rsz r = vsum r.items + 40 * r.items.length + 10 * r.nums.length + 100 := by
 unfold rsz vsum
 have e : ∀ xs : List Itm, (xs.map isz).sum = (xs.map fun x => x.value.length).sum + 40 * xs.length := by
  intro xs
  induction xs with
  | nil => rfl
  | cons a r ih => rw [List.map_cons, List.sum_cons, ih, List.map_cons, List.sum_cons, List.length_cons]; unfold isz; omega
 rw [e]
/-- What the reference writes. -/
def hdR (r : Rsp) : List UInt8 := if needsN r.op = 119 then enc r.ver ++ enc r.count.toNat else if needsN r.op = 109 then enc r.items.length else if needsN r.op = 99 then enc r.count.toNat else if needsN r.op = 110 then enc r.nums.length else []
def refW (r : Rsp) : List UInt8 := enc r.err.toNat ++ if r.err = 0 then hdR r ++ (r.items.flatMap wI ++ r.nums.flatMap enc) else []
theorem wI_len' (x : Itm) : (wI x).length ≤ isz x := by
 have h1 := enc_len x.mark.toNat
 have h2 := enc_len x.ver
 have h3 := enc_len x.dead
 have h4 := enc_len x.value.length
 unfold wI isz pb
 rw [List.length_append]
 split <;> simp only [List.length_nil, List.length_append] <;> omega
theorem items_len' : ∀ (xs : List Itm), (xs.flatMap wI).length ≤ (xs.map isz).sum
 | [] => by simp
 | x :: r => by
  have h1 := wI_len' x
  have h2 := items_len' r
  rw [List.flatMap_cons, List.length_append, List.map_cons, List.sum_cons]; omega
theorem hdR_len (r : Rsp) : (hdR r).length ≤ 20 := by
 have h1 := enc_len r.ver
 have h2 := enc_len r.count.toNat
 have h3 := enc_len r.items.length
 have h4 := enc_len r.nums.length
 unfold hdR
 repeat' split
 all_goals (first | omega | (simp only [List.length_append, List.length_nil]; omega))
theorem rw8_e (w : World) (r : Rsp) (xs : List IT) (hv : vals xs = r.items) (lo hi : Nat) (X : Option Addr) (cx : Nat) (N : Option Addr) (cn : Nat) (hx : RdI w lo hi X cx xs) (hn : RdN w lo hi N cn r.nums) (hok : RspOk r) (hsz : rsz r ≤ 4398046511104) (h1 : 0 ≤ r.op) (h2 : r.op ≤ 15) (h3 : 0 ≤ r.err) (h3b : r.err ≤ 9223372036854775807) (h4 : 0 ≤ r.count) (h5 : ∀ x ∈ r.items, 0 ≤ x.mark ∧ x.mark ≤ 9223372036854775807) (he0 : ¬ r.err = 0) :
  Fn Tryz.prog 59 #[(.agg #[(.int .i64 r.op), (.int .i64 r.err), (.slice X r.items.length cx), (.int .u64 (↑r.ver : Int)), (.int .i64 r.count), (.slice N r.nums.length cn)])] w (fun v w' => ∃ A c, v = .agg #[.int .u8 ((codeR r).toNat : Int), .slice A (refW r).length c] ∧ OwnB w' w.heap.size 5 A c (refW r) ∧ Ext w w')  := by
 replace hx := hx.top
 replace hn := Rd.top hn
 have hE := ext_refl w
 obtain ⟨hi, hh1⟩ : ∃ n, n = w.heap.size := ⟨_, rfl⟩
 rw [← hh1] at hx hn
 have hvl := vals_len xs
 rw [hv] at hvl
 have he1 := enc_len r.err.toNat
 have he2 := enc_len r.ver
 have he3 := enc_len r.count.toNat
 have he4 := enc_len r.items.length
 have he5 := enc_len r.nums.length
 have ha1 : (enc r.err.toNat ++ enc r.ver).length = (enc r.err.toNat).length + (enc r.ver).length := List.length_append
 have hok1 := hok.1
 have hok4 := hok.2.2.2
 have hrv0 : r.items.length ≤ rsz r ∧ r.nums.length ≤ rsz r := by rw [vsum_rsz]; omega
 refine fn_enter (args := [(.agg #[(.int .i64 r.op), (.int .i64 r.err), (.slice X r.items.length cx), (.int .u64 (↑r.ver : Int)), (.int .i64 r.count), (.slice N r.nums.length cn)])]) Tryz.func59 rfl rfl rfl ?_
 show WC _ _ _ _ [(0, (.agg #[(.int .i64 r.op), (.int .i64 r.err), (.slice X r.items.length cx), (.int .u64 (↑r.ver : Int)), (.int .i64 r.count), (.slice N r.nums.length cn)]))] _
 refine wc_seq (wc_regionL ?_)
 refine wl_step (or_box (cs := [(.int .i64 r.op), (.int .i64 r.err), (.slice X r.items.length cx), (.int .u64 (↑r.ver : Int)), (.int .i64 r.count), (.slice N r.nums.length cn)]) rfl rfl) rfl rfl rfl ?_
 rintro v w1 ⟨g1, rfl, hb_g1, he1, hl1, hu1⟩
 replace hE := hE.tr he1
 have hz_he1 := he1.size
 refine wl_step (or_alloc (cs := [(.int .u8 0), (.slice none 0 0)]) ze117 rfl) rfl rfl rfl ?_
 rintro v w2 ⟨g2, rfl, hb_g2, he2, hl2, hu2⟩
 replace hE := hE.tr he2
 replace hb_g1 := hb_g1.ext he2
 have hz_he2 := he2.size
 refine q_nil (k_then (wc_seq (wc_regionL ?_)))
 refine wl_val (ov_field0 (off := 1) fo43_1 rfl) rfl rfl rfl ?_
 refine wl_val (ov_loadAt oc29 rfl hb_g1 rfl) rfl rfl rfl ?_
 refine wl_val (ov_conv Tryz.underlying29 Tryz.underlying36 rfl (wu64 (by omega) (by omega))) rfl rfl rfl ?_
 refine wl_spell (d := 9) rfl (v' := (.int .u64 (↑r.err.toNat : Int))) (by rw [Int.toNat_of_nonneg (by omega)]) ?_
 refine wl_step (or_call0 cl77 rfl rfl (rput_any (r.err.toNat) _ (by omega))) rfl rfl rfl ?_
 rintro v w3 ⟨A10, c10, rfl, ho10, he10⟩
 replace hE := hE.tr he10
 replace hb_g1 := hb_g1.ext he10
 replace hb_g2 := hb_g2.ext he10
 have hz_he10 := he10.size
 have hq_ho10 := fun g e => Own.lt ho10 (g := g) e
 refine va rfl rfl ?_
 refine q_nil (k_then (wc_seq (wc_seq (wc_regionL ?_))))
 refine wl_val (ov_field0 (off := 1) fo43_1 rfl) rfl rfl rfl ?_
 refine wl_val (ov_loadAt oc29 rfl hb_g1 rfl) rfl rfl rfl ?_
 refine ve rfl rfl rfl ?_
 refine wl_spell (d := 13) rfl (bf (he0)) ?_
 refine q_nil (k_then ?_)
 refine wc_cond_f rfl ?_
 refine q_skip (k_then (wc_seq (wc_regionL ?_)))
 refine wl_val (ov_field0 (off := 0) fo43_0 rfl) rfl rfl rfl ?_
 refine wl_val (ov_loadAt oc34 rfl hb_g1 rfl) rfl rfl rfl ?_
 refine wl_val (ov_add rfl rfl (wi64 (by omega) (by omega))) rfl rfl rfl ?_
 refine wl_val (ov_conv Tryz.underlying3 Tryz.underlying5 rfl (wu8_R (by omega) (by omega))) rfl rfl rfl ?_
 refine vm rfl rfl ?_
 refine wl_val (ov_build (cs := [(.int .u8 (↑(codeR r).toNat : Int)), (.slice A10 (enc (r.err.toNat)).length c10)]) ze117 pl117 rfl rfl) rfl rfl rfl ?_
 refine wl_step0 (or_storeBlk (vs := [(.int .u8 (↑(codeR r).toNat : Int)), (.slice A10 (enc (r.err.toNat)).length c10)]) sz117 rfl rfl (by simp [Value.oneCell']) hb_g2 rfl) rfl rfl ?_
 rintro _ w4 ⟨hN4, hg4⟩
 have hz_hg4 := hg4.size
 replace hE := hE.gr hg4 (fun _ e => by cases e; omega)
 replace ho10 := Own.gr ho10 hg4 (by first | exact .inl rfl | (right; intro e; first | (have := hq_ho10 _ e; omega) | (have := Own.lt ho10 e; omega) | exact own_blk_ne ho10 hb_g2 (by decide) e))
 replace hb_g2 := hN4
 refine q_nil (k_then (q_ret ?_))
 refine e_retL (rs := [.cell 2 117]) (vs := [.agg #[(.int .u8 (↑(codeR r).toNat : Int)), (.slice A10 (enc (r.err.toNat)).length c10)]]) rfl ⟨⟨_, _, [(.int .u8 (↑(codeR r).toNat : Int)), (.slice A10 (enc (r.err.toNat)).length c10)], rfl, ag117_2, hb_g2, rfl⟩, trivial⟩ ?_
 have e1 : refW r = enc r.err.toNat := by unfold refW; rw [if_neg he0, List.append_nil]
 rw [e1]
 exact ⟨A10, c10, rfl, Own.mono ho10 (by omega), hE⟩
theorem rw8_0 (w : World) (r : Rsp) (xs : List IT) (hv : vals xs = r.items) (lo hi : Nat) (X : Option Addr) (cx : Nat) (N : Option Addr) (cn : Nat) (hx : RdI w lo hi X cx xs) (hn : RdN w lo hi N cn r.nums) (hok : RspOk r) (hsz : rsz r ≤ 4398046511104) (h1 : 0 ≤ r.op) (h2 : r.op ≤ 15) (h3 : 0 ≤ r.err) (h3b : r.err ≤ 9223372036854775807) (h4 : 0 ≤ r.count) (h5 : ∀ x ∈ r.items, 0 ≤ x.mark ∧ x.mark ≤ 9223372036854775807) (he0 : r.err = 0) :
  Fn Tryz.prog 59 #[(.agg #[(.int .i64 r.op), (.int .i64 r.err), (.slice X r.items.length cx), (.int .u64 (↑r.ver : Int)), (.int .i64 r.count), (.slice N r.nums.length cn)])] w (fun v w' => ∃ A c, v = .agg #[.int .u8 ((codeR r).toNat : Int), .slice A (refW r).length c] ∧ OwnB w' w.heap.size 5 A c (refW r) ∧ Ext w w')  := by
 replace hx := hx.top
 replace hn := Rd.top hn
 have hE := ext_refl w
 obtain ⟨hi, hh1⟩ : ∃ n, n = w.heap.size := ⟨_, rfl⟩
 rw [← hh1] at hx hn
 have hvl := vals_len xs
 rw [hv] at hvl
 have he1 := enc_len r.err.toNat
 have he2 := enc_len r.ver
 have he3 := enc_len r.count.toNat
 have he4 := enc_len r.items.length
 have he5 := enc_len r.nums.length
 have ha1 : (enc r.err.toNat ++ enc r.ver).length = (enc r.err.toNat).length + (enc r.ver).length := List.length_append
 have hok1 := hok.1
 have hok4 := hok.2.2.2
 have hrv0 : r.items.length ≤ rsz r ∧ r.nums.length ≤ rsz r := by rw [vsum_rsz]; omega
 refine fn_enter (args := [(.agg #[(.int .i64 r.op), (.int .i64 r.err), (.slice X r.items.length cx), (.int .u64 (↑r.ver : Int)), (.int .i64 r.count), (.slice N r.nums.length cn)])]) Tryz.func59 rfl rfl rfl ?_
 show WC _ _ _ _ [(0, (.agg #[(.int .i64 r.op), (.int .i64 r.err), (.slice X r.items.length cx), (.int .u64 (↑r.ver : Int)), (.int .i64 r.count), (.slice N r.nums.length cn)]))] _
 refine wc_seq (wc_regionL ?_)
 refine wl_step (or_box (cs := [(.int .i64 r.op), (.int .i64 r.err), (.slice X r.items.length cx), (.int .u64 (↑r.ver : Int)), (.int .i64 r.count), (.slice N r.nums.length cn)]) rfl rfl) rfl rfl rfl ?_
 rintro v w1 ⟨g1, rfl, hb_g1, he1, hl1, hu1⟩
 replace hx := RdI.ext hx he1
 replace hn := hn.ext he1
 replace hE := hE.tr he1
 have hz_he1 := he1.size
 refine wl_step (or_alloc (cs := [(.int .u8 0), (.slice none 0 0)]) ze117 rfl) rfl rfl rfl ?_
 rintro v w2 ⟨g2, rfl, hb_g2, he2, hl2, hu2⟩
 replace hx := RdI.ext hx he2
 replace hn := hn.ext he2
 replace hE := hE.tr he2
 replace hb_g1 := hb_g1.ext he2
 have hz_he2 := he2.size
 refine q_nil (k_then (wc_seq (wc_regionL ?_)))
 refine wl_val (ov_field0 (off := 1) fo43_1 rfl) rfl rfl rfl ?_
 refine wl_val (ov_loadAt oc29 rfl hb_g1 rfl) rfl rfl rfl ?_
 refine wl_val (ov_conv Tryz.underlying29 Tryz.underlying36 rfl (wu64 (by omega) (by omega))) rfl rfl rfl ?_
 refine wl_spell (d := 9) rfl (v' := (.int .u64 (↑r.err.toNat : Int))) (by rw [Int.toNat_of_nonneg (by omega)]) ?_
 refine wl_step (or_call0 cl77 rfl rfl (rput_any (r.err.toNat) _ (by omega))) rfl rfl rfl ?_
 rintro v w3 ⟨A10, c10, rfl, ho10, he10⟩
 replace hx := RdI.ext hx he10
 replace hn := hn.ext he10
 replace hE := hE.tr he10
 replace hb_g1 := hb_g1.ext he10
 replace hb_g2 := hb_g2.ext he10
 have hz_he10 := he10.size
 refine va rfl rfl ?_
 refine q_nil (k_then (wc_seq (wc_seq (wc_regionL ?_))))
 refine wl_val (ov_field0 (off := 1) fo43_1 rfl) rfl rfl rfl ?_
 refine wl_val (ov_loadAt oc29 rfl hb_g1 rfl) rfl rfl rfl ?_
 refine ve rfl rfl rfl ?_
 refine wl_spell (d := 13) rfl (bt (he0)) ?_
 refine q_nil (k_then ?_)
 refine wc_cond_t rfl ?_
 refine wc_seq (wc_seq (wc_regionL ?_))
 refine wl_val (ov_field0 (off := 0) fo43_0 rfl) rfl rfl rfl ?_
 refine wl_val (ov_loadAt oc34 rfl hb_g1 rfl) rfl rfl rfl ?_
 refine wl_val (or_call0 cl78 rfl rfl (needs8_any _ r.op)) rfl rfl rfl ?_
 refine q_nil (k_then ?_)
 refine wc_cutQ (σ := Option Addr × Nat) (J := fun s w' => OwnB w' w.heap.size 5 s.1 s.2 (enc r.err.toNat ++ hdR r) ∧ Blk w' g1 43 (rspc r X cx N cn) ∧ Blk w' g2 117 [.int .u8 0, .slice none 0 0] ∧ RdI w' lo hi X cx xs ∧ RdN w' lo hi N cn r.nums ∧ Ext w w') (Lj := fun s => [(1, .pointer (some ⟨g1, 0, none⟩)), (2, .pointer (some ⟨g2, 0, none⟩)), (3, .slice s.1 (enc r.err.toNat ++ hdR r).length s.2)]) ?_ ?_
 ·refine wc_block (wc_seq (wc_regionL ?_))
  refine ve rfl rfl rfl ?_
  refine va rfl rfl ?_
  refine q_nil (k_then ?_)
  refine wc_cond_d rfl (fun hc2 => ?_) (fun hc2 => ?_)
  ·refine wc_seq (wc_regionL ?_)
   refine vm rfl rfl ?_
   refine wl_val (ov_field0 (off := 3) fo43_3 rfl) rfl rfl rfl ?_
   refine wl_val (ov_loadAt oc36 rfl hb_g1 rfl) rfl rfl rfl ?_
   refine wl_step (or_call0 cl77 rfl rfl (rput_any (r.ver) _ (by omega))) rfl rfl rfl ?_
   rintro v w4 ⟨A22, c22, rfl, ho22, he22⟩
   replace hx := RdI.ext hx he22
   replace hn := hn.ext he22
   replace hE := hE.tr he22
   replace hb_g1 := hb_g1.ext he22
   replace hb_g2 := hb_g2.ext he22
   replace ho10 := Own.ext ho10 he22
   have hz_he22 := he22.size
   refine wl_step (or_bappend bt32 rfl ho10 rfl (OwnB.rd ho22) (by omega) (by omega)) rfl rfl rfl ?_
   rintro v w5 ⟨A23, c23, rfl, ho23, hg23, ha23⟩
   have hq23 := fun g e => Own.lt ho10 (g := g) e
   have hz_hg23 := hg23.size
   replace hx := RdI.gr hx hg23 (fun g e => by have := hq23 g e; omega)
   replace hn := hn.gr hg23 (fun g e => by have := hq23 g e; omega)
   replace hE := hE.gr hg23 (fun g e => by have := hq23 g e; omega)
   replace hb_g1 := hb_g1.gr hg23 (by first | (intro e; have := hq23 _ e; omega) | exact own_blk_ne ho10 hb_g1 (by decide))
   replace hb_g2 := hb_g2.gr hg23 (by first | (intro e; have := hq23 _ e; omega) | exact own_blk_ne ho10 hb_g2 (by decide))
   refine va rfl rfl ?_
   refine q_nil (k_then (wc_regionL ?_))
   refine vm rfl rfl ?_
   refine wl_val (ov_field0 (off := 4) fo43_4 rfl) rfl rfl rfl ?_
   refine wl_val (ov_loadAt oc3 rfl hb_g1 rfl) rfl rfl rfl ?_
   refine wl_val (ov_conv Tryz.underlying3 Tryz.underlying36 rfl (wu64 (by omega) (by omega))) rfl rfl rfl ?_
   refine wl_spell (d := 27) rfl (v' := (.int .u64 (↑r.count.toNat : Int))) (by rw [Int.toNat_of_nonneg (by omega)]) ?_
   refine wl_step (or_call0 cl77 rfl rfl (rput_any (r.count.toNat) _ (by omega))) rfl rfl rfl ?_
   rintro v w6 ⟨A28, c28, rfl, ho28, he28⟩
   replace hx := RdI.ext hx he28
   replace hn := hn.ext he28
   replace hE := hE.tr he28
   replace hb_g1 := hb_g1.ext he28
   replace hb_g2 := hb_g2.ext he28
   replace ho23 := Own.ext ho23 he28
   have hz_he28 := he28.size
   refine wl_step (or_bappend bt32 rfl ho23 rfl (OwnB.rd ho28) (by omega) (by omega)) rfl rfl rfl ?_
   rintro v w7 ⟨A29, c29, rfl, ho29, hg29, ha29⟩
   have hq29 := fun g e => Own.lt ho23 (g := g) e
   have hz_hg29 := hg29.size
   replace hx := RdI.gr hx hg29 (fun g e => by have := hq29 g e; omega)
   replace hn := hn.gr hg29 (fun g e => by have := hq29 g e; omega)
   replace hE := hE.gr hg29 (fun g e => by have := hq29 g e; omega)
   replace hb_g1 := hb_g1.gr hg29 (by first | (intro e; have := hq29 _ e; omega) | exact own_blk_ne ho23 hb_g1 (by decide))
   replace hb_g2 := hb_g2.gr hg29 (by first | (intro e; have := hq29 _ e; omega) | exact own_blk_ne ho23 hb_g2 (by decide))
   refine va rfl rfl ?_
   refine q_nil (k_block ?_)
   refine k_cut ((A29, c29)) (⟨rfl, rfl, congrArg (fun o => some (Value.slice A29 (List.length o) c29)) (show enc r.err.toNat ++ enc r.ver ++ enc r.count.toNat = (enc r.err.toNat ++ hdR r) from by unfold hdR; rw [if_pos (by omega), List.append_assoc]), trivial⟩) (⟨by show OwnB _ _ _ _ _ (enc r.err.toNat ++ hdR r); rw [← show enc r.err.toNat ++ enc r.ver ++ enc r.count.toNat = (enc r.err.toNat ++ hdR r) from by unfold hdR; rw [if_pos (by omega), List.append_assoc]]; exact Own.mono ho29 (by omega), hb_g1, hb_g2, hx, hn, hE⟩)
  ·refine wc_seq (wc_regionL ?_)
   refine ve rfl rfl rfl ?_
   refine va rfl rfl ?_
   refine q_nil (k_then ?_)
   refine wc_cond_d rfl (fun hc3 => ?_) (fun hc3 => ?_)
   ·refine wc_regionL ?_
    refine vm rfl rfl ?_
    refine wl_val (ov_field0 (off := 2) fo43_2 rfl) rfl rfl rfl ?_
    refine wl_val (ov_loadAt oc40 rfl hb_g1 rfl) rfl rfl rfl ?_
    refine wl_val (ov_len Tryz.underlying40 rfl) rfl rfl rfl ?_
    refine wl_val (ov_conv Tryz.underlying3 Tryz.underlying36 rfl (wu64 (by omega) (by omega))) rfl rfl rfl ?_
    refine wl_step (or_call0 cl77 rfl rfl (rput_any (r.items.length) _ (by omega))) rfl rfl rfl ?_
    rintro v w204 ⟨A37, c37, rfl, ho37, he37⟩
    replace hx := RdI.ext hx he37
    replace hn := hn.ext he37
    replace hE := hE.tr he37
    replace hb_g1 := hb_g1.ext he37
    replace hb_g2 := hb_g2.ext he37
    replace ho10 := Own.ext ho10 he37
    have hz_he37 := he37.size
    refine wl_step (or_bappend bt32 rfl ho10 rfl (OwnB.rd ho37) (by omega) (by omega)) rfl rfl rfl ?_
    rintro v w205 ⟨A38, c38, rfl, ho38, hg38, ha38⟩
    have hq38 := fun g e => Own.lt ho10 (g := g) e
    have hz_hg38 := hg38.size
    replace hx := RdI.gr hx hg38 (fun g e => by have := hq38 g e; omega)
    replace hn := hn.gr hg38 (fun g e => by have := hq38 g e; omega)
    replace hE := hE.gr hg38 (fun g e => by have := hq38 g e; omega)
    replace hb_g1 := hb_g1.gr hg38 (by first | (intro e; have := hq38 _ e; omega) | exact own_blk_ne ho10 hb_g1 (by decide))
    replace hb_g2 := hb_g2.gr hg38 (by first | (intro e; have := hq38 _ e; omega) | exact own_blk_ne ho10 hb_g2 (by decide))
    refine va rfl rfl ?_
    refine q_nil (k_block ?_)
    refine k_cut ((A38, c38)) (⟨rfl, rfl, congrArg (fun o => some (Value.slice A38 (List.length o) c38)) (show enc r.err.toNat ++ enc r.items.length = (enc r.err.toNat ++ hdR r) from by unfold hdR; rw [if_neg (by omega), if_pos (by omega)]), trivial⟩) (⟨by show OwnB _ _ _ _ _ (enc r.err.toNat ++ hdR r); rw [← show enc r.err.toNat ++ enc r.items.length = (enc r.err.toNat ++ hdR r) from by unfold hdR; rw [if_neg (by omega), if_pos (by omega)]]; exact Own.mono ho38 (by omega), hb_g1, hb_g2, hx, hn, hE⟩)
   ·refine wc_seq (wc_regionL ?_)
    refine ve rfl rfl rfl ?_
    refine va rfl rfl ?_
    refine q_nil (k_then ?_)
    refine wc_cond_d rfl (fun hc4 => ?_) (fun hc4 => ?_)
    ·refine wc_regionL ?_
     refine vm rfl rfl ?_
     refine wl_val (ov_field0 (off := 4) fo43_4 rfl) rfl rfl rfl ?_
     refine wl_val (ov_loadAt oc3 rfl hb_g1 rfl) rfl rfl rfl ?_
     refine wl_val (ov_conv Tryz.underlying3 Tryz.underlying36 rfl (wu64 (by omega) (by omega))) rfl rfl rfl ?_
     refine wl_spell (d := 44) rfl (v' := (.int .u64 (↑r.count.toNat : Int))) (by rw [Int.toNat_of_nonneg (by omega)]) ?_
     refine wl_step (or_call0 cl77 rfl rfl (rput_any (r.count.toNat) _ (by omega))) rfl rfl rfl ?_
     rintro v w204 ⟨A45, c45, rfl, ho45, he45⟩
     replace hx := RdI.ext hx he45
     replace hn := hn.ext he45
     replace hE := hE.tr he45
     replace hb_g1 := hb_g1.ext he45
     replace hb_g2 := hb_g2.ext he45
     replace ho10 := Own.ext ho10 he45
     have hz_he45 := he45.size
     refine wl_step (or_bappend bt32 rfl ho10 rfl (OwnB.rd ho45) (by omega) (by omega)) rfl rfl rfl ?_
     rintro v w205 ⟨A46, c46, rfl, ho46, hg46, ha46⟩
     have hq46 := fun g e => Own.lt ho10 (g := g) e
     have hz_hg46 := hg46.size
     replace hx := RdI.gr hx hg46 (fun g e => by have := hq46 g e; omega)
     replace hn := hn.gr hg46 (fun g e => by have := hq46 g e; omega)
     replace hE := hE.gr hg46 (fun g e => by have := hq46 g e; omega)
     replace hb_g1 := hb_g1.gr hg46 (by first | (intro e; have := hq46 _ e; omega) | exact own_blk_ne ho10 hb_g1 (by decide))
     replace hb_g2 := hb_g2.gr hg46 (by first | (intro e; have := hq46 _ e; omega) | exact own_blk_ne ho10 hb_g2 (by decide))
     refine va rfl rfl ?_
     refine q_nil (k_block ?_)
     refine k_cut ((A46, c46)) (⟨rfl, rfl, congrArg (fun o => some (Value.slice A46 (List.length o) c46)) (show enc r.err.toNat ++ enc r.count.toNat = (enc r.err.toNat ++ hdR r) from by unfold hdR; rw [if_neg (by omega), if_neg (by omega), if_pos (by omega)]), trivial⟩) (⟨by show OwnB _ _ _ _ _ (enc r.err.toNat ++ hdR r); rw [← show enc r.err.toNat ++ enc r.count.toNat = (enc r.err.toNat ++ hdR r) from by unfold hdR; rw [if_neg (by omega), if_neg (by omega), if_pos (by omega)]]; exact Own.mono ho46 (by omega), hb_g1, hb_g2, hx, hn, hE⟩)
    ·refine wc_seq (wc_regionL ?_)
     refine ve rfl rfl rfl ?_
     refine va rfl rfl ?_
     refine q_nil (k_then ?_)
     refine wc_cond_d rfl (fun hc5 => ?_) (fun hc5 => ?_)
     ·refine wc_regionL ?_
      refine vm rfl rfl ?_
      refine wl_val (ov_field0 (off := 5) fo43_5 rfl) rfl rfl rfl ?_
      refine wl_val (ov_loadAt oc41 rfl hb_g1 rfl) rfl rfl rfl ?_
      refine wl_val (ov_len Tryz.underlying41 rfl) rfl rfl rfl ?_
      refine wl_val (ov_conv Tryz.underlying3 Tryz.underlying36 rfl (wu64 (by omega) (by omega))) rfl rfl rfl ?_
      refine wl_step (or_call0 cl77 rfl rfl (rput_any (r.nums.length) _ (by omega))) rfl rfl rfl ?_
      rintro v w204 ⟨A54, c54, rfl, ho54, he54⟩
      replace hx := RdI.ext hx he54
      replace hn := hn.ext he54
      replace hE := hE.tr he54
      replace hb_g1 := hb_g1.ext he54
      replace hb_g2 := hb_g2.ext he54
      replace ho10 := Own.ext ho10 he54
      have hz_he54 := he54.size
      refine wl_step (or_bappend bt32 rfl ho10 rfl (OwnB.rd ho54) (by omega) (by omega)) rfl rfl rfl ?_
      rintro v w205 ⟨A55, c55, rfl, ho55, hg55, ha55⟩
      have hq55 := fun g e => Own.lt ho10 (g := g) e
      have hz_hg55 := hg55.size
      replace hx := RdI.gr hx hg55 (fun g e => by have := hq55 g e; omega)
      replace hn := hn.gr hg55 (fun g e => by have := hq55 g e; omega)
      replace hE := hE.gr hg55 (fun g e => by have := hq55 g e; omega)
      replace hb_g1 := hb_g1.gr hg55 (by first | (intro e; have := hq55 _ e; omega) | exact own_blk_ne ho10 hb_g1 (by decide))
      replace hb_g2 := hb_g2.gr hg55 (by first | (intro e; have := hq55 _ e; omega) | exact own_blk_ne ho10 hb_g2 (by decide))
      refine va rfl rfl ?_
      refine q_nil (k_block ?_)
      refine k_cut ((A55, c55)) (⟨rfl, rfl, congrArg (fun o => some (Value.slice A55 (List.length o) c55)) (show enc r.err.toNat ++ enc r.nums.length = (enc r.err.toNat ++ hdR r) from by unfold hdR; rw [if_neg (by omega), if_neg (by omega), if_neg (by omega), if_pos (by omega)]), trivial⟩) (⟨by show OwnB _ _ _ _ _ (enc r.err.toNat ++ hdR r); rw [← show enc r.err.toNat ++ enc r.nums.length = (enc r.err.toNat ++ hdR r) from by unfold hdR; rw [if_neg (by omega), if_neg (by omega), if_neg (by omega), if_pos (by omega)]]; exact Own.mono ho55 (by omega), hb_g1, hb_g2, hx, hn, hE⟩)
     ·refine q_skip (k_block ?_)
      refine k_cut ((A10, c10)) (⟨rfl, rfl, congrArg (fun o => some (Value.slice A10 (List.length o) c10)) (show enc r.err.toNat = (enc r.err.toNat ++ hdR r) from by unfold hdR; rw [if_neg (by omega), if_neg (by omega), if_neg (by omega), if_neg (by omega), List.append_nil]), trivial⟩) (⟨by show OwnB _ _ _ _ _ (enc r.err.toNat ++ hdR r); rw [← show enc r.err.toNat = (enc r.err.toNat ++ hdR r) from by unfold hdR; rw [if_neg (by omega), if_neg (by omega), if_neg (by omega), if_neg (by omega), List.append_nil]]; exact Own.mono ho10 (by omega), hb_g1, hb_g2, hx, hn, hE⟩)
 ·rintro ⟨A3, c3⟩ wc ⟨ho3, hb_g1, hb_g2, hx, hn, hE⟩
  show KQ _ _ _ [(1, (.pointer (some ⟨g1, 0, none⟩))), (2, (.pointer (some ⟨g2, 0, none⟩))), (3, (.slice A3 (enc r.err.toNat ++ hdR r).length c3))] _
  replace ho3 : OwnB wc w.heap.size 5 A3 c3 (enc r.err.toNat ++ hdR r) := ho3
  have hz_E := hE.size
  have hhl := hdR_len r
  have hol : (enc r.err.toNat ++ hdR r).length = (enc r.err.toNat).length + (hdR r).length := List.length_append
  refine k_then (wc_seq (wc_seq (wc_regionL ?_)))
  refine va rfl rfl ?_
  refine q_nil (k_then (wc_block ?_))
  refine wc_loop (σ := Nat × Option Addr × Nat) (fun s => r.items.length - s.1) (fun s => [(1, .pointer (some ⟨g1, 0, none⟩)), (2, .pointer (some ⟨g2, 0, none⟩)), (3, .slice s.2.1 (enc r.err.toNat ++ hdR r ++ (r.items.take s.1).flatMap wI).length s.2.2), (4, .int .i64 (s.1 : Int))]) (fun s w' => s.1 ≤ r.items.length ∧ OwnB w' w.heap.size 5 s.2.1 s.2.2 (enc r.err.toNat ++ hdR r ++ (r.items.take s.1).flatMap wI) ∧ Blk w' g1 43 (rspc r X cx N cn) ∧ Blk w' g2 117 [.int .u8 0, .slice none 0 0] ∧ RdI w' lo hi X cx xs ∧ RdN w' lo hi N cn r.nums ∧ Ext w w') ((0, A3, c3)) (⟨Nat.zero_le _, by show OwnB _ _ _ _ _ (enc r.err.toNat ++ hdR r ++ (r.items.take 0).flatMap wI); rw [show enc r.err.toNat ++ hdR r ++ (r.items.take 0).flatMap wI = enc r.err.toNat ++ hdR r from by rw [List.take_zero, List.flatMap_nil, List.append_nil]]; exact ho3, hb_g1, hb_g2, hx, hn, hE⟩) (⟨rfl, rfl, congrArg (fun o => some (Value.slice A3 (List.length o) c3)) (show enc r.err.toNat ++ hdR r ++ (r.items.take 0).flatMap wI = enc r.err.toNat ++ hdR r from by rw [List.take_zero, List.flatMap_nil, List.append_nil]).symm, rfl, trivial⟩) ?_
  rintro ⟨i, A3, c3⟩ wq4 ⟨hi0, ho3, hb_g1, hb_g2, hx, hn, hE⟩
  show WC _ _ _ _ [(1, (.pointer (some ⟨g1, 0, none⟩))), (2, (.pointer (some ⟨g2, 0, none⟩))), (3, (.slice A3 (enc r.err.toNat ++ hdR r ++ (r.items.take i).flatMap wI).length c3)), (4, (.int .i64 (↑i : Int)))] _
  simp only at hi0
  replace ho3 : OwnB wq4 w.heap.size 5 A3 c3 (enc r.err.toNat ++ hdR r ++ (r.items.take i).flatMap wI) := ho3
  have hq_ho3 := fun g e => Own.lt ho3 (g := g) e
  have hz_E := hE.size
  have hz1 := hb_g1.lt
  have hz2 := hb_g2.lt
  have hil := items_len' (r.items.take i)
  have hst0 := sum_take r.items i
  have hol2 : (enc r.err.toNat ++ hdR r ++ (r.items.take i).flatMap wI).length = (enc r.err.toNat ++ hdR r).length + ((r.items.take i).flatMap wI).length := List.length_append
  have hr0 : rsz r = (r.items.map isz).sum + 10 * r.nums.length + 100 := rfl
  refine wc_seq (wc_seq (wc_regionL ?_))
  refine vm rfl rfl ?_
  refine wl_val (ov_field0 (off := 2) fo43_2 rfl) rfl rfl rfl ?_
  refine wl_val (ov_loadAt oc40 rfl hb_g1 rfl) rfl rfl rfl ?_
  refine wl_val (ov_len Tryz.underlying40 rfl) rfl rfl rfl ?_
  refine wl_val (ov_lss rfl rfl) rfl rfl rfl ?_
  refine q_nil (k_then ?_)
  refine wc_cond_d rfl (fun hc6 => ?_) (fun hc6 => ?_)
  ·obtain ⟨x, hk⟩ : ∃ s, xs[i]? = some s := ⟨_, List.getElem?_eq_getElem (by omega)⟩
   have hki := vals_at hv hk
   have hxm := List.mem_of_getElem? hki
   obtain ⟨hd1, hd2⟩ := hok.2.1 x.1 hxm
   have hxm5 := h5 x.1 hxm
   have hrv := hx.2 x (List.mem_of_getElem? hk)
   have hss := sum_succ hki
   have hst := sum_take r.items (i + 1)
   have hxz : isz x.1 = x.1.value.length + 40 := rfl
   have hem := enc_len x.1.mark.toNat
   have hev := enc_len x.1.ver
   have hed := enc_len x.1.dead
   have hel := enc_len x.1.value.length
   have hla1 : ((enc r.err.toNat ++ hdR r ++ (r.items.take i).flatMap wI) ++ enc x.1.mark.toNat).length = (enc r.err.toNat ++ hdR r ++ (r.items.take i).flatMap wI).length + (enc x.1.mark.toNat).length := List.length_append
   have hla2 : ((enc r.err.toNat ++ hdR r ++ (r.items.take i).flatMap wI) ++ enc x.1.mark.toNat ++ enc x.1.ver).length = ((enc r.err.toNat ++ hdR r ++ (r.items.take i).flatMap wI) ++ enc x.1.mark.toNat).length + (enc x.1.ver).length := List.length_append
   have hla3 : ((enc r.err.toNat ++ hdR r ++ (r.items.take i).flatMap wI) ++ enc x.1.mark.toNat ++ enc x.1.ver ++ enc x.1.dead).length = ((enc r.err.toNat ++ hdR r ++ (r.items.take i).flatMap wI) ++ enc x.1.mark.toNat ++ enc x.1.ver).length + (enc x.1.dead).length := List.length_append
   have hla4 : (enc x.1.value.length ++ x.1.value).length = (enc x.1.value.length).length + x.1.value.length := List.length_append
   refine q_skip (k_then (wc_seq (wc_block (wc_seq (wc_regionL ?_)))))
   refine wl_val (ov_field0 (off := 2) fo43_2 rfl) rfl rfl rfl ?_
   refine wl_val (ov_loadAt oc40 rfl hb_g1 rfl) rfl rfl rfl ?_
   refine wl_spell (d := 64) rfl (v' := (.slice X xs.length cx)) (by rw [← hv, vals_len]) ?_
   refine vm rfl rfl ?_
   refine wl_step (or_rindex (m := (i)) sl40 rfl rfl hx.1 (fun _ _ => rfl) hk) rfl rfl rfl ?_
   rintro v _ ⟨rfl, p66, rfl, hp66, hpl66, hph66⟩
   refine wl_val (ov_loadAgg (cs := [(.int .i64 x.1.mark), (.slice x.2.1 x.1.value.length x.2.2), (.int .u64 (↑x.1.ver : Int)), (.int .u64 (↑x.1.dead : Int))]) ag80_4 rfl rfl hp66) rfl rfl rfl ?_
   refine wl_step (or_alloc (cs := [(.int .i64 0), (.slice none 0 0), (.int .u64 0), (.int .u64 0)]) ze80 rfl) rfl rfl rfl ?_
   rintro v w204 ⟨g5, rfl, hb_g5, he5, hl5, hu5⟩
   replace ho3 := Own.ext ho3 he5
   replace hb_g1 := hb_g1.ext he5
   replace hb_g2 := hb_g2.ext he5
   replace hx := RdI.ext hx he5
   replace hn := hn.ext he5
   replace hE := hE.tr he5
   replace hrv := hrv.ext he5
   have hz_he5 := he5.size
   refine wl_step0 (or_storeBlk (vs := [(.int .i64 x.1.mark), (.slice x.2.1 x.1.value.length x.2.2), (.int .u64 (↑x.1.ver : Int)), (.int .u64 (↑x.1.dead : Int))]) sz80 rfl rfl (by simp [Value.oneCell']) hb_g5 rfl) rfl rfl ?_
   rintro _ w205 ⟨hN205, hg205⟩
   have hz_hg205 := hg205.size
   replace ho3 := Own.gr ho3 hg205 (by first | exact .inl rfl | (right; intro e; first | (have := hq_ho3 _ e; omega) | (have := Own.lt ho3 e; omega) | exact own_blk_ne ho3 hb_g5 (by decide) e))
   replace hb_g1 := hb_g1.gr hg205 (by intro e; cases e; omega)
   replace hb_g2 := hb_g2.gr hg205 (by intro e; cases e; omega)
   replace hx := RdI.gr hx hg205 (fun _ e => by cases e; omega)
   replace hn := hn.gr hg205 (fun _ e => by cases e; omega)
   replace hE := hE.gr hg205 (fun _ e => by cases e; omega)
   replace hrv := hrv.gr hg205 (fun _ e => by cases e; omega)
   replace hb_g5 := hN205
   refine q_nil (k_then (wc_seq (wc_regionL ?_)))
   refine vm rfl rfl ?_
   refine wl_val (ov_field0 (off := 0) fo80_0 rfl) rfl rfl rfl ?_
   refine wl_val (ov_loadAt oc78 rfl hb_g5 rfl) rfl rfl rfl ?_
   refine wl_val (ov_conv Tryz.underlying78 Tryz.underlying36 rfl (wu64 (by omega) (by omega))) rfl rfl rfl ?_
   refine wl_spell (d := 71) rfl (v' := (.int .u64 (↑x.1.mark.toNat : Int))) (by rw [Int.toNat_of_nonneg (by omega)]) ?_
   refine wl_step (or_call0 cl77 rfl rfl (rput_any (x.1.mark.toNat) _ (by omega))) rfl rfl rfl ?_
   rintro v w206 ⟨A72, c72, rfl, ho72, he72⟩
   replace ho3 := Own.ext ho3 he72
   replace hb_g1 := hb_g1.ext he72
   replace hb_g2 := hb_g2.ext he72
   replace hx := RdI.ext hx he72
   replace hn := hn.ext he72
   replace hE := hE.tr he72
   replace hrv := hrv.ext he72
   replace hb_g5 := hb_g5.ext he72
   have hz_he72 := he72.size
   refine wl_step (or_bappend bt32 rfl ho3 rfl (OwnB.rd ho72) (by omega) (by omega)) rfl rfl rfl ?_
   rintro v w207 ⟨A73, c73, rfl, ho73, hg73, ha73⟩
   have hq73 := fun g e => Own.lt ho3 (g := g) e
   have hz_hg73 := hg73.size
   replace hb_g1 := hb_g1.gr hg73 (by first | (intro e; have := hq73 _ e; omega) | exact own_blk_ne ho3 hb_g1 (by decide))
   replace hb_g2 := hb_g2.gr hg73 (by first | (intro e; have := hq73 _ e; omega) | exact own_blk_ne ho3 hb_g2 (by decide))
   replace hx := RdI.gr hx hg73 (fun g e => by have := hq73 g e; omega)
   replace hn := hn.gr hg73 (fun g e => by have := hq73 g e; omega)
   replace hE := hE.gr hg73 (fun g e => by have := hq73 g e; omega)
   replace hrv := hrv.gr hg73 (fun g e => by have := hq73 g e; omega)
   replace hb_g5 := hb_g5.gr hg73 (by first | (intro e; have := hq73 _ e; omega) | exact own_blk_ne ho3 hb_g5 (by decide))
   refine va rfl rfl ?_
   refine q_nil (k_then (wc_seq (wc_regionL ?_)))
   refine wl_val (ov_field0 (off := 0) fo80_0 rfl) rfl rfl rfl ?_
   refine wl_val (ov_loadAt oc78 rfl hb_g5 rfl) rfl rfl rfl ?_
   refine wl_val (ov_neq rfl rfl) rfl rfl rfl ?_
   refine q_nil (k_then ?_)
   refine wc_cond_d rfl (fun hc7 => ?_) (fun hc7 => ?_)
   ·have hm0 : ¬ x.1.mark = 0 := by omega
    refine wc_seq (wc_regionL ?_)
    refine vm rfl rfl ?_
    refine wl_val (ov_field0 (off := 2) fo80_2 rfl) rfl rfl rfl ?_
    refine wl_val (ov_loadAt oc36 rfl hb_g5 rfl) rfl rfl rfl ?_
    refine wl_step (or_call0 cl77 rfl rfl (rput_any (x.1.ver) _ (by omega))) rfl rfl rfl ?_
    rintro v w208 ⟨A80, c80, rfl, ho80, he80⟩
    replace hb_g1 := hb_g1.ext he80
    replace hb_g2 := hb_g2.ext he80
    replace hx := RdI.ext hx he80
    replace hn := hn.ext he80
    replace hE := hE.tr he80
    replace hrv := hrv.ext he80
    replace hb_g5 := hb_g5.ext he80
    replace ho73 := Own.ext ho73 he80
    have hz_he80 := he80.size
    refine wl_step (or_bappend bt32 rfl ho73 rfl (OwnB.rd ho80) (by omega) (by omega)) rfl rfl rfl ?_
    rintro v w209 ⟨A81, c81, rfl, ho81, hg81, ha81⟩
    have hq81 := fun g e => Own.lt ho73 (g := g) e
    have hz_hg81 := hg81.size
    replace hb_g1 := hb_g1.gr hg81 (by first | (intro e; have := hq81 _ e; omega) | exact own_blk_ne ho73 hb_g1 (by decide))
    replace hb_g2 := hb_g2.gr hg81 (by first | (intro e; have := hq81 _ e; omega) | exact own_blk_ne ho73 hb_g2 (by decide))
    replace hx := RdI.gr hx hg81 (fun g e => by have := hq81 g e; omega)
    replace hn := hn.gr hg81 (fun g e => by have := hq81 g e; omega)
    replace hE := hE.gr hg81 (fun g e => by have := hq81 g e; omega)
    replace hrv := hrv.gr hg81 (fun g e => by have := hq81 g e; omega)
    replace hb_g5 := hb_g5.gr hg81 (by first | (intro e; have := hq81 _ e; omega) | exact own_blk_ne ho73 hb_g5 (by decide))
    refine va rfl rfl ?_
    refine q_nil (k_then (wc_seq (wc_regionL ?_)))
    refine vm rfl rfl ?_
    refine wl_val (ov_field0 (off := 3) fo80_3 rfl) rfl rfl rfl ?_
    refine wl_val (ov_loadAt oc37 rfl hb_g5 rfl) rfl rfl rfl ?_
    refine wl_step (or_call0 cl77 rfl rfl (rput_any (x.1.dead) _ (by omega))) rfl rfl rfl ?_
    rintro v w210 ⟨A85, c85, rfl, ho85, he85⟩
    replace hb_g1 := hb_g1.ext he85
    replace hb_g2 := hb_g2.ext he85
    replace hx := RdI.ext hx he85
    replace hn := hn.ext he85
    replace hE := hE.tr he85
    replace hrv := hrv.ext he85
    replace hb_g5 := hb_g5.ext he85
    replace ho81 := Own.ext ho81 he85
    have hz_he85 := he85.size
    refine wl_step (or_bappend bt32 rfl ho81 rfl (OwnB.rd ho85) (by omega) (by omega)) rfl rfl rfl ?_
    rintro v w211 ⟨A86, c86, rfl, ho86, hg86, ha86⟩
    have hq86 := fun g e => Own.lt ho81 (g := g) e
    have hz_hg86 := hg86.size
    replace hb_g1 := hb_g1.gr hg86 (by first | (intro e; have := hq86 _ e; omega) | exact own_blk_ne ho81 hb_g1 (by decide))
    replace hb_g2 := hb_g2.gr hg86 (by first | (intro e; have := hq86 _ e; omega) | exact own_blk_ne ho81 hb_g2 (by decide))
    replace hx := RdI.gr hx hg86 (fun g e => by have := hq86 g e; omega)
    replace hn := hn.gr hg86 (fun g e => by have := hq86 g e; omega)
    replace hE := hE.gr hg86 (fun g e => by have := hq86 g e; omega)
    replace hrv := hrv.gr hg86 (fun g e => by have := hq86 g e; omega)
    replace hb_g5 := hb_g5.gr hg86 (by first | (intro e; have := hq86 _ e; omega) | exact own_blk_ne ho81 hb_g5 (by decide))
    refine va rfl rfl ?_
    refine q_nil (k_then (wc_regionL ?_))
    refine vm rfl rfl ?_
    refine wl_val (ov_field0 (off := 1) fo80_1 rfl) rfl rfl rfl ?_
    refine wl_val (ov_loadAt oc32 rfl hb_g5 rfl) rfl rfl rfl ?_
    refine wl_step (or_call0 cl79 rfl rfl (rputbytes_any _ _ _ _ _ x.1.value hrv (by omega))) rfl rfl rfl ?_
    rintro v w212 ⟨A90, c90, rfl, ho90, he90⟩
    replace hb_g1 := hb_g1.ext he90
    replace hb_g2 := hb_g2.ext he90
    replace hx := RdI.ext hx he90
    replace hn := hn.ext he90
    replace hE := hE.tr he90
    replace ho86 := Own.ext ho86 he90
    have hz_he90 := he90.size
    refine wl_step (or_bappend bt32 rfl ho86 rfl (OwnB.rd ho90) (by omega) (by omega)) rfl rfl rfl ?_
    rintro v w213 ⟨A91, c91, rfl, ho91, hg91, ha91⟩
    have hq91 := fun g e => Own.lt ho86 (g := g) e
    have hz_hg91 := hg91.size
    replace hb_g1 := hb_g1.gr hg91 (by first | (intro e; have := hq91 _ e; omega) | exact own_blk_ne ho86 hb_g1 (by decide))
    replace hb_g2 := hb_g2.gr hg91 (by first | (intro e; have := hq91 _ e; omega) | exact own_blk_ne ho86 hb_g2 (by decide))
    replace hx := RdI.gr hx hg91 (fun g e => by have := hq91 g e; omega)
    replace hn := hn.gr hg91 (fun g e => by have := hq91 g e; omega)
    replace hE := hE.gr hg91 (fun g e => by have := hq91 g e; omega)
    refine va rfl rfl ?_
    refine q_nil (k_block (k_then (wc_regionL ?_)))
    refine vm rfl rfl ?_
    refine wl_val (ov_add rfl rfl (wi64 (by omega) (by omega))) rfl rfl rfl ?_
    refine va rfl rfl ?_
    refine q_nil ?_
    have hcur : (((((enc r.err.toNat ++ hdR r ++ (r.items.take i).flatMap wI) ++ (enc (x.1.mark.toNat))) ++ (enc (x.1.ver))) ++ (enc (x.1.dead))) ++ (enc x.1.value.length ++ x.1.value)) = (enc r.err.toNat ++ hdR r ++ (r.items.take (i + 1)).flatMap wI) := by rw [wI_take hki, ← List.append_assoc, wI_full hm0]; simp only [List.append_assoc]
    refine k_loop ((i + 1, A91, c91)) (by show r.items.length - (i + 1) < r.items.length - i; omega) (⟨rfl, rfl, congrArg (fun o => some (Value.slice A91 (List.length o) c91)) hcur, rfl, trivial⟩) (⟨by show i + 1 ≤ _; omega, by show OwnB _ _ _ _ _ (enc r.err.toNat ++ hdR r ++ (r.items.take (i + 1)).flatMap wI); rw [← hcur]; exact Own.mono ho91 (by omega), hb_g1, hb_g2, hx, hn, hE⟩)
   ·have hm0 : x.1.mark = 0 := by omega
    refine q_skip (k_block (k_then (wc_regionL ?_)))
    refine vm rfl rfl ?_
    refine wl_val (ov_add rfl rfl (wi64 (by omega) (by omega))) rfl rfl rfl ?_
    refine va rfl rfl ?_
    refine q_nil ?_
    have hcur : ((enc r.err.toNat ++ hdR r ++ (r.items.take i).flatMap wI) ++ (enc (x.1.mark.toNat))) = (enc r.err.toNat ++ hdR r ++ (r.items.take (i + 1)).flatMap wI) := by rw [wI_take hki, ← List.append_assoc, wI_zero hm0]
    refine k_loop ((i + 1, A73, c73)) (by show r.items.length - (i + 1) < r.items.length - i; omega) (⟨rfl, rfl, congrArg (fun o => some (Value.slice A73 (List.length o) c73)) hcur, rfl, trivial⟩) (⟨by show i + 1 ≤ _; omega, by show OwnB _ _ _ _ _ (enc r.err.toNat ++ hdR r ++ (r.items.take (i + 1)).flatMap wI); rw [← hcur]; exact Own.mono ho73 (by omega), hb_g1, hb_g2, hx, hn, hE⟩)
  ·have hix : r.items.take i = r.items := List.take_of_length_le (by omega)
   rw [hix] at ho3 hol2
   rw [hix]
   refine q_exit (k_thenX (k_thenX (k_blockE (k_then (wc_seq (wc_regionL ?_))))))
   refine va rfl rfl ?_
   refine q_nil (k_then (wc_block ?_))
   refine wc_loop (σ := Nat × Option Addr × Nat) (fun s => r.nums.length - s.1) (fun s => [(1, .pointer (some ⟨g1, 0, none⟩)), (2, .pointer (some ⟨g2, 0, none⟩)), (3, .slice s.2.1 (enc r.err.toNat ++ hdR r ++ r.items.flatMap wI ++ (r.nums.take s.1).flatMap enc).length s.2.2), (6, .int .i64 (s.1 : Int))]) (fun s w' => s.1 ≤ r.nums.length ∧ OwnB w' w.heap.size 5 s.2.1 s.2.2 (enc r.err.toNat ++ hdR r ++ r.items.flatMap wI ++ (r.nums.take s.1).flatMap enc) ∧ Blk w' g1 43 (rspc r X cx N cn) ∧ Blk w' g2 117 [.int .u8 0, .slice none 0 0] ∧ RdI w' lo hi X cx xs ∧ RdN w' lo hi N cn r.nums ∧ Ext w w') ((0, A3, c3)) (⟨Nat.zero_le _, by show OwnB _ _ _ _ _ (enc r.err.toNat ++ hdR r ++ r.items.flatMap wI ++ (r.nums.take 0).flatMap enc); rw [show enc r.err.toNat ++ hdR r ++ r.items.flatMap wI ++ (r.nums.take 0).flatMap enc = enc r.err.toNat ++ hdR r ++ r.items.flatMap wI from by rw [List.take_zero, List.flatMap_nil, List.append_nil]]; exact ho3, hb_g1, hb_g2, hx, hn, hE⟩) (⟨rfl, rfl, congrArg (fun o => some (Value.slice A3 (List.length o) c3)) (show enc r.err.toNat ++ hdR r ++ r.items.flatMap wI ++ (r.nums.take 0).flatMap enc = enc r.err.toNat ++ hdR r ++ r.items.flatMap wI from by rw [List.take_zero, List.flatMap_nil, List.append_nil]).symm, rfl, trivial⟩) ?_
   rintro ⟨i, A3, c3⟩ wq6 ⟨hi0, ho3, hb_g1, hb_g2, hx, hn, hE⟩
   show WC _ _ _ _ [(1, (.pointer (some ⟨g1, 0, none⟩))), (2, (.pointer (some ⟨g2, 0, none⟩))), (3, (.slice A3 (enc r.err.toNat ++ hdR r ++ r.items.flatMap wI ++ (r.nums.take i).flatMap enc).length c3)), (6, (.int .i64 (↑i : Int)))] _
   simp only at hi0
   replace ho3 : OwnB wq6 w.heap.size 5 A3 c3 (enc r.err.toNat ++ hdR r ++ r.items.flatMap wI ++ (r.nums.take i).flatMap enc) := ho3
   have hq_ho3 := fun g e => Own.lt ho3 (g := g) e
   have hz_E := hE.size
   have hz1 := hb_g1.lt
   have hz2 := hb_g2.lt
   have hnl := encs_len (r.nums.take i)
   rw [List.length_take] at hnl
   have hil := items_len' r.items
   have hol2 : (enc r.err.toNat ++ hdR r ++ r.items.flatMap wI ++ (r.nums.take i).flatMap enc).length = (enc r.err.toNat ++ hdR r).length + (r.items.flatMap wI).length + ((r.nums.take i).flatMap enc).length := by rw [List.length_append, List.length_append]
   have hr0 : rsz r = (r.items.map isz).sum + 10 * r.nums.length + 100 := rfl
   refine wc_seq (wc_seq (wc_regionL ?_))
   refine vm rfl rfl ?_
   refine wl_val (ov_field0 (off := 5) fo43_5 rfl) rfl rfl rfl ?_
   refine wl_val (ov_loadAt oc41 rfl hb_g1 rfl) rfl rfl rfl ?_
   refine wl_val (ov_len Tryz.underlying41 rfl) rfl rfl rfl ?_
   refine wl_val (ov_lss rfl rfl) rfl rfl rfl ?_
   refine q_nil (k_then ?_)
   refine wc_cond_d rfl (fun hc8 => ?_) (fun hc8 => ?_)
   ·obtain ⟨n, hk⟩ : ∃ n, r.nums[i]? = some n := ⟨_, List.getElem?_eq_getElem (by omega)⟩
    have hnb := hok.2.2.1 n (List.mem_of_getElem? hk)
    have hne := enc_len n
    refine q_skip (k_then (wc_seq (wc_block (wc_regionL ?_))))
    refine vm rfl rfl ?_
    refine wl_val (ov_field0 (off := 5) fo43_5 rfl) rfl rfl rfl ?_
    refine wl_val (ov_loadAt oc41 rfl hb_g1 rfl) rfl rfl rfl ?_
    refine vm rfl rfl ?_
    refine wl_step (or_rindex (m := (i)) sl41 rfl rfl hn (fun _ _ => rfl) hk) rfl rfl rfl ?_
    rintro v _ ⟨rfl, p103, rfl, hp103, hpl103, hph103⟩
    refine wl_val (ov_load oc36 rfl (cell_zero hp103 rfl)) rfl rfl rfl ?_
    refine wl_step (or_call0 cl77 rfl rfl (rput_any (n) _ (by omega))) rfl rfl rfl ?_
    rintro v w204 ⟨A105, c105, rfl, ho105, he105⟩
    replace ho3 := Own.ext ho3 he105
    replace hb_g1 := hb_g1.ext he105
    replace hb_g2 := hb_g2.ext he105
    replace hx := RdI.ext hx he105
    replace hn := hn.ext he105
    replace hE := hE.tr he105
    have hz_he105 := he105.size
    refine wl_step (or_bappend bt32 rfl ho3 rfl (OwnB.rd ho105) (by omega) (by omega)) rfl rfl rfl ?_
    rintro v w205 ⟨A106, c106, rfl, ho106, hg106, ha106⟩
    have hq106 := fun g e => Own.lt ho3 (g := g) e
    have hz_hg106 := hg106.size
    replace hb_g1 := hb_g1.gr hg106 (by first | (intro e; have := hq106 _ e; omega) | exact own_blk_ne ho3 hb_g1 (by decide))
    replace hb_g2 := hb_g2.gr hg106 (by first | (intro e; have := hq106 _ e; omega) | exact own_blk_ne ho3 hb_g2 (by decide))
    replace hx := RdI.gr hx hg106 (fun g e => by have := hq106 g e; omega)
    replace hn := hn.gr hg106 (fun g e => by have := hq106 g e; omega)
    replace hE := hE.gr hg106 (fun g e => by have := hq106 g e; omega)
    refine va rfl rfl ?_
    refine q_nil (k_block (k_then (wc_regionL ?_)))
    refine vm rfl rfl ?_
    refine wl_val (ov_add rfl rfl (wi64 (by omega) (by omega))) rfl rfl rfl ?_
    refine va rfl rfl ?_
    refine q_nil ?_
    have hcur : ((enc r.err.toNat ++ hdR r ++ r.items.flatMap wI ++ (r.nums.take i).flatMap enc) ++ enc n) = (enc r.err.toNat ++ hdR r ++ r.items.flatMap wI ++ (r.nums.take (i + 1)).flatMap enc) := by rw [enc_take hk, ← List.append_assoc]
    refine k_loop ((i + 1, A106, c106)) (by show r.nums.length - (i + 1) < r.nums.length - i; omega) (⟨rfl, rfl, congrArg (fun o => some (Value.slice A106 (List.length o) c106)) hcur, rfl, trivial⟩) (⟨by show i + 1 ≤ _; omega, by show OwnB _ _ _ _ _ (enc r.err.toNat ++ hdR r ++ r.items.flatMap wI ++ (r.nums.take (i + 1)).flatMap enc); rw [← hcur]; exact Own.mono ho106 (by omega), hb_g1, hb_g2, hx, hn, hE⟩)
   ·have hix : r.nums.take i = r.nums := List.take_of_length_le (by omega)
    rw [hix] at ho3 hol2
    rw [hix]
    refine q_exit (k_thenX (k_thenX (k_blockE (k_then (wc_seq (wc_regionL ?_))))))
    refine wl_val (ov_field0 (off := 0) fo43_0 rfl) rfl rfl rfl ?_
    refine wl_val (ov_loadAt oc34 rfl hb_g1 rfl) rfl rfl rfl ?_
    refine wl_val (ov_add rfl rfl (wi64 (by omega) (by omega))) rfl rfl rfl ?_
    refine wl_val (ov_conv Tryz.underlying3 Tryz.underlying5 rfl (wu8_R (by omega) (by omega))) rfl rfl rfl ?_
    refine vm rfl rfl ?_
    refine wl_val (ov_build (cs := [(.int .u8 (↑(codeR r).toNat : Int)), (.slice A3 (enc r.err.toNat ++ hdR r ++ r.items.flatMap wI ++ r.nums.flatMap enc).length c3)]) ze117 pl117 rfl rfl) rfl rfl rfl ?_
    refine wl_step0 (or_storeBlk (vs := [(.int .u8 (↑(codeR r).toNat : Int)), (.slice A3 (enc r.err.toNat ++ hdR r ++ r.items.flatMap wI ++ r.nums.flatMap enc).length c3)]) sz117 rfl rfl (by simp [Value.oneCell']) hb_g2 rfl) rfl rfl ?_
    rintro _ w204 ⟨hN204, hg204⟩
    have hz_hg204 := hg204.size
    replace ho3 := Own.gr ho3 hg204 (by first | exact .inl rfl | (right; intro e; first | (have := hq_ho3 _ e; omega) | (have := Own.lt ho3 e; omega) | exact own_blk_ne ho3 hb_g2 (by decide) e))
    replace hE := hE.gr hg204 (fun _ e => by cases e; omega)
    replace hb_g2 := hN204
    refine q_nil (k_then (q_ret ?_))
    refine e_retL (rs := [.cell 2 117]) (vs := [.agg #[(.int .u8 (↑(codeR r).toNat : Int)), (.slice A3 (enc r.err.toNat ++ hdR r ++ r.items.flatMap wI ++ r.nums.flatMap enc).length c3)]]) rfl ⟨⟨_, _, [(.int .u8 (↑(codeR r).toNat : Int)), (.slice A3 (enc r.err.toNat ++ hdR r ++ r.items.flatMap wI ++ r.nums.flatMap enc).length c3)], rfl, ag117_2, hb_g2, rfl⟩, trivial⟩ ?_
    have e1 : refW r = enc r.err.toNat ++ hdR r ++ r.items.flatMap wI ++ r.nums.flatMap enc := by unfold refW; rw [if_pos he0]; simp only [List.append_assoc]
    rw [e1]
    exact ⟨A3, c3, rfl, ho3, hE⟩
theorem rw8_any (w : World) (r : Rsp) (xs : List IT) (hv : vals xs = r.items) (lo hi : Nat) (X : Option Addr) (cx : Nat) (N : Option Addr) (cn : Nat) (hx : RdI w lo hi X cx xs) (hn : RdN w lo hi N cn r.nums) (hok : RspOk r) (hsz : rsz r ≤ 4398046511104) (h1 : 0 ≤ r.op) (h2 : r.op ≤ 15) (h3 : 0 ≤ r.err) (h3b : r.err ≤ 9223372036854775807) (h4 : 0 ≤ r.count) (h5 : ∀ x ∈ r.items, 0 ≤ x.mark ∧ x.mark ≤ 9223372036854775807) :
  Fn Tryz.prog 59 #[.agg (rspc r X cx N cn).toArray] w (fun v w' => ∃ A c, v = .agg #[.int .u8 ((codeR r).toNat : Int), .slice A (refW r).length c] ∧ OwnB w' w.heap.size 5 A c (refW r) ∧ Ext w w') := by
 by_cases h : r.err = 0
 ·exact rw8_0 w r xs hv lo hi X cx N cn hx hn hok hsz h1 h2 h3 h3b h4 h5 h
 ·exact rw8_e w r xs hv lo hi X cx N cn hx hn hok hsz h1 h2 h3 h3b h4 h5 h
end Go.Proofs.YtiighkbehiddkaaGreat