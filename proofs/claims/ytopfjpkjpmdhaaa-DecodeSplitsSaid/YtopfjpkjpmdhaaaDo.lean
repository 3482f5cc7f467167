/-
  The walk of DecodeSplits.
-/
import Derived.Test.YtopfjpkjpmdhaaaDn
import Derived.Test.YtopfjpkjpmdhaaaDk
namespace Go.Proofs.Ytopfjpkjpmdhaaa
open Go.RowKit
set_option linter.unusedVariables false
set_option maxRecDepth 4000
theorem cl30 : callable Try.prog 30 = true := by kernel_rfl
theorem cl36 : callable Try.prog 36 = true := by kernel_rfl
theorem sz68 : (Try.prog.info? 68).map (·.size) = some 1 := by kernel_rfl
theorem ze64 : zeroOf Try.prog 64 = some (.slice none 0 0) := by kernel_rfl
theorem ze68 : zeroOf Try.prog 68 = some (.pointer none) := by kernel_rfl

set_option maxHeartbeats 4000000 in
theorem decodeSplits_walk (w : World) (lo hi : Nat) (A0 : Option Addr) (c0 : Nat) (b : List UInt8) (hr : RdB w lo hi A0 c0 b) (most : Int) (loz hiz : Nat) (Z : Option Addr) (cz : Nat) (z : List UInt8) (hrz : RdB w loz hiz Z cz z) (lok hik : Nat) (K : Option Addr) (ck : Nat) (kk : List UInt8) (hrc : RdB w lok hik K ck kk) :
    Fn Try.prog 9 #[(.slice A0 b.length c0), (.int .i64 most), (.slice Z z.length cz), (.slice K kk.length ck)] w (fun v w' => v = .bool true ∧ Ext w w')  := by
  replace hr := hr.top
  replace hrz := hrz.top
  replace hrc := hrc.top
  have hr0 := hr
  have hrz0 := hrz
  have hrc0 := hrc
  have hE := ext_refl w
  refine fn_enter (args := [(.slice A0 b.length c0), (.int .i64 most), (.slice Z z.length cz), (.slice K kk.length ck)]) Try.func9 rfl rfl rfl ?_
  show WC _ _ _ _ [(0, (.slice A0 b.length c0)), (1, (.int .i64 most)), (2, (.slice Z z.length cz)), (3, (.slice K kk.length ck))] _
  refine wc_seq ?_
  refine wc_regionL ?_
  refine wl_val (ov_assign rfl) rfl rfl rfl ?_
  refine q_nil ?_
  refine k_then ?_
  refine wc_seq ?_
  refine wc_seq ?_
  refine wc_regionL ?_
  refine wl_val (ov_move rfl) rfl rfl rfl ?_
  refine wl_val (ov_len Try.underlying26 rfl) rfl rfl rfl ?_
  refine wl_val (ov_gtr rfl rfl) rfl rfl rfl ?_
  refine wl_case_d (d := 20) rfl (fun h20 => ?_) (fun h20 => ?_)
  · refine wl_val (ov_move rfl) rfl rfl rfl ?_
    refine wl_gskip rfl rfl rfl rfl rfl rfl ?_
    refine wl_gskip rfl rfl rfl rfl rfl rfl ?_
    refine wl_val (ov_pick_t rfl rfl) rfl rfl rfl ?_
    refine wl_val (ov_move rfl) rfl rfl rfl ?_
    refine wl_gskip rfl rfl rfl rfl rfl rfl ?_
    refine wl_gskip rfl rfl rfl rfl rfl rfl ?_
    refine wl_val (ov_pick_t rfl rfl) rfl rfl rfl ?_
    refine q_nil ?_
    refine k_then ?_
    refine wc_cond_t rfl ?_
    refine wc_seq ?_
    refine wc_regionL ?_
    refine wl_step (or_call0 cl30 rfl rfl (known06_any _)) rfl rfl rfl ?_
    rintro v w1 ⟨rfl, he29⟩
    replace hr := hr.ext he29
    replace hrz := hrz.ext he29
    replace hrc := hrc.ext he29
    replace hE := hE.tr he29
    have hz_he29 := he29.size
    refine wl_val (ov_assign rfl) rfl rfl rfl ?_
    refine q_nil ?_
    refine k_then ?_
    refine q_ret ?_
    refine k_thenR ?_
    refine e_ret rfl rfl ?_
    exact ⟨rfl, hE⟩
  · refine wl_val (ov_move rfl) rfl rfl rfl ?_
    refine wl_gval (ov_move rfl) rfl rfl rfl rfl rfl ?_
    refine wl_gval (ov_lss rfl rfl) rfl rfl rfl rfl rfl ?_
    refine wl_case_d (d := 23) rfl (fun h23 => ?_) (fun h23 => ?_)
    · refine wl_val (ov_pick_f rfl rfl) rfl rfl rfl ?_
      refine wl_val (ov_move rfl) rfl rfl rfl ?_
      refine wl_gskip rfl rfl rfl rfl rfl rfl ?_
      refine wl_gskip rfl rfl rfl rfl rfl rfl ?_
      refine wl_val (ov_pick_t rfl rfl) rfl rfl rfl ?_
      refine q_nil ?_
      refine k_then ?_
      refine wc_cond_t rfl ?_
      refine wc_seq ?_
      refine wc_regionL ?_
      refine wl_step (or_call0 cl30 rfl rfl (known06_any _)) rfl rfl rfl ?_
      rintro v w201 ⟨rfl, he29⟩
      replace hr := hr.ext he29
      replace hrz := hrz.ext he29
      replace hrc := hrc.ext he29
      replace hE := hE.tr he29
      have hz_he29 := he29.size
      refine wl_val (ov_assign rfl) rfl rfl rfl ?_
      refine q_nil ?_
      refine k_then ?_
      refine q_ret ?_
      refine k_thenR ?_
      refine e_ret rfl rfl ?_
      exact ⟨rfl, hE⟩
    · refine wl_val (ov_pick_f rfl rfl) rfl rfl rfl ?_
      refine wl_val (ov_move rfl) rfl rfl rfl ?_
      refine wl_gval (ov_move rfl) rfl rfl rfl rfl rfl ?_
      refine wl_gval (ov_gtr rfl rfl) rfl rfl rfl rfl rfl ?_
      refine wl_case_d (d := 27) rfl (fun h27 => ?_) (fun h27 => ?_)
      · refine wl_val (ov_pick_f rfl rfl) rfl rfl rfl ?_
        refine q_nil ?_
        refine k_then ?_
        refine wc_cond_t rfl ?_
        refine wc_seq ?_
        refine wc_regionL ?_
        refine wl_step (or_call0 cl30 rfl rfl (known06_any _)) rfl rfl rfl ?_
        rintro v w201 ⟨rfl, he29⟩
        replace hr := hr.ext he29
        replace hrz := hrz.ext he29
        replace hrc := hrc.ext he29
        replace hE := hE.tr he29
        have hz_he29 := he29.size
        refine wl_val (ov_assign rfl) rfl rfl rfl ?_
        refine q_nil ?_
        refine k_then ?_
        refine q_ret ?_
        refine k_thenR ?_
        refine e_ret rfl rfl ?_
        exact ⟨rfl, hE⟩
      · obtain ⟨m, rfl⟩ : ∃ m : Nat, most = (m : Int) := ⟨most.toNat, by omega⟩
        have hm : m ≤ 2097152 := by omega
        refine wl_val (ov_pick_f rfl rfl) rfl rfl rfl ?_
        refine q_nil ?_
        refine k_then ?_
        refine wc_cond_f rfl ?_
        refine q_skip ?_
        refine k_then ?_
        refine wc_seq ?_
        refine wc_regionL ?_
        refine wl_val (ov_move rfl) rfl rfl rfl ?_
        refine wl_step (or_call0 cl35 rfl rfl (dnew_ok _ (m) (by omega))) rfl rfl rfl ?_
        rintro v w201 ⟨gn32, rfl, hb32, he32, hg132⟩
        replace hr := hr.ext he32
        replace hrz := hrz.ext he32
        replace hrc := hrc.ext he32
        replace hE := hE.tr he32
        have hz_he32 := he32.size
        have hDs32 : ∀ x, (none : Option Nat) = some x → w.heap.size ≤ x ∧ x < w201.heap.size := fun x e => by cases e
        have hzb32 := hb32.lt.1
        have hcp32 := hb32.cap
        have hnl32 : ([] : List UInt8).length = 0 := rfl
        refine wl_val (ov_move rfl) rfl rfl rfl ?_
        refine wl_val (ov_extract rfl rfl) rfl rfl rfl ?_
        refine wl_val (ov_extract rfl rfl) rfl rfl rfl ?_
        refine wl_step (or_alloc (cs := [(.pointer none)]) ze68 rfl) rfl rfl rfl ?_
        rintro v w202 ⟨g9, rfl, hb_g9, he9, hl9, hu9⟩
        replace hr := hr.ext he9
        replace hrz := hrz.ext he9
        replace hrc := hrc.ext he9
        replace hE := hE.tr he9
        replace hb32 := hb32.ext he9
        have hz_he9 := he9.size
        refine wl_step0 (or_storeAt (cs' := [(.pointer (some ⟨gn32, 0, none⟩))]) sz68 rfl rfl rfl hb_g9 rfl rfl) rfl rfl ?_
        rintro _ w203 ⟨hN203, hg203⟩
        have hz_hg203 := hg203.size
        replace hr := hr.gr hg203 (fun _ e => by cases e; omega)
        replace hrz := hrz.gr hg203 (fun _ e => by cases e; omega)
        replace hrc := hrc.gr hg203 (fun _ e => by cases e; omega)
        replace hE := hE.gr hg203 (fun _ e => by cases e; omega)
        replace hb32 := hb32.gr hg203 (fun x e => by cases e; omega) (fun x e e2 => by cases e; have := hDs32 _ e2; omega)
        replace hb_g9 := hN203
        refine wl_val (ov_assign rfl) rfl rfl rfl ?_
        refine q_nil ?_
        refine k_then ?_
        refine wc_seq ?_
        refine wc_seq ?_
        refine wc_regionL ?_
        refine wl_val (ov_loadAt oc68 rfl hb_g9 rfl) rfl rfl rfl ?_
        refine wl_val (ov_nilptr Try.underlying68 rfl) rfl rfl rfl ?_
        refine wl_val (ov_move rfl) rfl rfl rfl ?_
        refine wl_gval (ov_move rfl) rfl rfl rfl rfl rfl ?_
        refine wl_gval (ov_neq rfl rfl) rfl rfl rfl rfl rfl ?_
        refine wl_val (ov_pick_f rfl rfl) rfl rfl rfl ?_
        refine q_nil ?_
        refine k_then ?_
        refine wc_cond_f rfl ?_
        refine q_skip ?_
        refine k_then ?_
        refine wc_seq ?_
        refine wc_regionL ?_
        refine wl_step (or_alloc (cs := [(.slice none 0 0)]) ze60 rfl) rfl rfl rfl ?_
        rintro v w204 ⟨g11, rfl, hb_g11, he11, hl11, hu11⟩
        replace hr := hr.ext he11
        replace hrz := hrz.ext he11
        replace hrc := hrc.ext he11
        replace hE := hE.tr he11
        replace hb32 := hb32.ext he11
        replace hb_g9 := hb_g9.ext he11
        have hz_he11 := he11.size
        refine q_nil ?_
        refine k_then ?_
        refine wc_seq ?_
        refine wc_regionL ?_
        refine wl_step (or_alloc (cs := [(.slice none 0 0)]) ze64 rfl) rfl rfl rfl ?_
        rintro v w205 ⟨g12, rfl, hb_g12, he12, hl12, hu12⟩
        replace hr := hr.ext he12
        replace hrz := hrz.ext he12
        replace hrc := hrc.ext he12
        replace hE := hE.tr he12
        replace hb32 := hb32.ext he12
        replace hb_g9 := hb_g9.ext he12
        replace hb_g11 := hb_g11.ext he12
        have hz_he12 := he12.size
        refine q_nil ?_
        refine k_then ?_
        refine wc_seq ?_
        refine wc_regionL ?_
        refine wl_val (ov_makeFunc (fi := []) (ca := [.tmp 9, .tmp 11, .tmp 12]) rfl rfl) rfl rfl rfl ?_
        refine wl_val (ov_assign rfl) rfl rfl rfl ?_
        refine q_nil ?_
        refine k_then ?_
        refine wc_seq ?_
        refine wc_regionL ?_
        refine wl_val (ov_move rfl) rfl rfl rfl ?_
        refine wl_val (ov_assign rfl) rfl rfl rfl ?_
        refine q_nil ?_
        refine k_then ?_
        refine wc_seq ?_
        refine wc_seq ?_
        refine wc_regionL ?_
        refine wl_val (ov_assign rfl) rfl rfl rfl ?_
        refine q_nil ?_
        refine k_then ?_
        refine wc_block ?_
        have hgn := hb32.lt.1
        have hcol : Col _ w.heap.size g11 g12 gn32 none m false [] none 0 none 0 [] := ⟨hb32.mono (by omega), hb_g11, Own.nil_ _ _ _ _, hb_g12, Own.nil_ _ _ _ _, (fun y hy => by cases hy), (fun y hy => by cases hy)⟩
        refine wc_loop (σ := Nat × Option Addr × Nat × List UInt8) (fun s => s.2.2.2.length) (fun s => [(0, .slice A0 b.length c0), (1, .int .i64 (m : Int)), (2, .slice Z z.length cz), (3, .slice K kk.length ck), (9, .pointer (some ⟨g9, 0, none⟩)), (11, .pointer (some ⟨g11, 0, none⟩)), (12, .pointer (some ⟨g12, 0, none⟩)), (13, .func (.func 36) #[] #[.pointer (some ⟨g9, 0, none⟩), .pointer (some ⟨g11, 0, none⟩), .pointer (some ⟨g12, 0, none⟩)]), (14, .slice s.2.1 s.2.2.2.length s.2.2.1), (15, .int .i64 (s.1 : Int))]) (fun s w' => RdB w lo w.heap.size s.2.1 s.2.2.1 s.2.2.2 ∧ s.1 + s.2.2.2.length ≤ b.length ∧ (∃ D cl l A c B d ys, Col w' w.heap.size g11 g12 gn32 D m cl l A c B d ys ∧ (List.map gotv ys ++ dall m cl (dfeed cl l s.2.2.2) = dall m false b) ∧ List.length l + List.length s.2.2.2 ≤ 300) ∧ Blk w' g9 68 [.pointer (some ⟨gn32, 0, none⟩)] ∧ Ext w w') ((0, A0, c0, b)) (⟨hr0, by show 0 + b.length ≤ b.length; omega, ⟨none, false, [], none, 0, none, 0, [], hcol, rfl, by show 0 + b.length ≤ 300; omega⟩, hb_g9, hE⟩) (⟨rfl, rfl, rfl, rfl, rfl, rfl, rfl, rfl, rfl, rfl, trivial⟩) ?_
        rintro ⟨i, Ar, cr, r⟩ wq ⟨hrr0, hir, ⟨D, cl, l, A, c, B, d, ys, hcol, heq, hll⟩, hb_g9, hE⟩
        show WC _ _ _ _ [(0, (.slice A0 b.length c0)), (1, (.int .i64 (↑m : Int))), (2, (.slice Z z.length cz)), (3, (.slice K kk.length ck)), (9, (.pointer (some ⟨g9, 0, none⟩))), (11, (.pointer (some ⟨g11, 0, none⟩))), (12, (.pointer (some ⟨g12, 0, none⟩))), (13, (.func (.func 36) #[] #[(.pointer (some ⟨g9, 0, none⟩)), (.pointer (some ⟨g11, 0, none⟩)), (.pointer (some ⟨g12, 0, none⟩))])), (14, (.slice Ar r.length cr)), (15, (.int .i64 (↑i : Int)))] _
        replace hrr0 : RdB w lo w.heap.size Ar cr r := hrr0
        replace hir : i + r.length ≤ b.length := hir
        replace heq : ys.map gotv ++ dall m cl (dfeed cl l r) = dall m false b := heq
        replace hll : l.length + r.length ≤ 300 := hll
        have hz_E := hE.size
        have hr := hr0.ext hE
        have hrz := hrz0.ext hE
        have hrc := hrc0.ext hE
        have hrr := hrr0.ext hE
        refine wc_seq ?_
        refine wc_seq ?_
        refine wc_regionL ?_
        refine wl_val (ov_move rfl) rfl rfl rfl ?_
        refine wl_val (ov_len Try.underlying26 rfl) rfl rfl rfl ?_
        refine wl_val (ov_gtr rfl rfl) rfl rfl rfl ?_
        refine q_nil ?_
        refine k_then ?_
        refine wc_cond_d rfl (fun hc3 => ?_) (fun hc3 => ?_)
        · refine q_skip ?_
          refine k_then ?_
          refine wc_seq ?_
          refine wc_block ?_
          refine wc_seq ?_
          refine wc_regionL ?_
          refine wl_val (ov_assign rfl) rfl rfl rfl ?_
          refine q_nil ?_
          refine k_then ?_
          refine wc_seq ?_
          refine wc_seq ?_
          refine wc_regionL ?_
          refine wl_val (ov_move rfl) rfl rfl rfl ?_
          refine wl_val (ov_len Try.underlying26 rfl) rfl rfl rfl ?_
          refine wl_val (ov_gtr rfl rfl) rfl rfl rfl ?_
          refine q_nil ?_
          refine k_then ?_
          refine wc_cond_d rfl (fun hc4 => ?_) (fun hc4 => ?_)
          · obtain ⟨n, hn, hn1, hnr⟩ : ∃ n : Nat, ((min r.length (max 1 (z.getD (i % z.length) 0).toNat) : Nat) : Int) = (n : Int) ∧ 1 ≤ n ∧ n ≤ r.length := ⟨_, rfl, by omega, by omega⟩
            refine wc_regionL ?_
            refine wl_val (ov_move rfl) rfl rfl rfl ?_
            refine wl_val (ov_len Try.underlying26 rfl) rfl rfl rfl ?_
            refine wl_val (ov_move rfl) rfl rfl rfl ?_
            refine wl_val (ov_move rfl) rfl rfl rfl ?_
            refine wl_val (ov_move rfl) rfl rfl rfl ?_
            refine wl_val (ov_len Try.underlying26 rfl) rfl rfl rfl ?_
            refine wl_val (ov_rem rfl rfl (by omega) (show (_ : Int).tmod (_ : Int) = _ from (Int.ofNat_tmod _ _).symm)) rfl rfl rfl ?_
            have hmod := Nat.mod_lt i (show 0 < z.length by omega)
            have hu58 := UInt8.toNat_lt (z.getD (i % z.length) 0)
            refine wl_step (or_bindex bt26 rfl rfl hrz (by omega) (by omega)) rfl rfl rfl ?_
            rintro v _ ⟨rfl, p58, rfl, hp58, hpl58, hph58⟩
            replace hp58 : World.cell? _ p58 = some (u8v (z.getD (i % z.length) 0)) := hp58
            refine wl_val (ov_load oc5 rfl hp58) rfl rfl rfl ?_
            refine wl_val (ov_conv Try.underlying5 Try.underlying3 rfl (wi64 (by omega) (by omega))) rfl rfl rfl ?_
            refine wl_val (ov_max rfl rfl (m := ((max 1 (z.getD (i % z.length) 0).toNat : Nat) : Int)) (by omega)) rfl rfl rfl ?_
            refine wl_val (ov_min rfl rfl (m := ((min r.length (max 1 (z.getD (i % z.length) 0).toNat) : Nat) : Int)) (by omega)) rfl rfl rfl ?_
            refine wl_val (ov_assign rfl) rfl rfl rfl ?_
            refine q_nil ?_
            refine k_then ?_
            refine wc_seq ?_
            refine wc_spell (d := 16) rfl (v' := .int .i64 (n : Int)) (by rw [hn]) ?_
            refine wc_draw mixed 4 [(63, eqv (.pointer (some ⟨gn32, 0, none⟩))), (64, eqv (.slice Ar r.length cr)), (65, eqv (.int .i64 (↑n : Int))), (66, (fun v w' => ∃ A66 c66, v = .slice A66 (r.take n).length c66 ∧ RdB w' lo w.heap.size A66 c66 (r.take n)))] [[], [], [], [1, 2]] _ [] [] (fun _ _ h => h) trivial (by kernel_rfl) rfl ⟨⟨stb_eqv _, fun _ he => by cases he⟩, ⟨stb_eqv _, fun _ he => by cases he⟩, ⟨stb_eqv _, fun _ he => by cases he⟩, ⟨(fun v a b ⟨A, c, hv, h⟩ he => ⟨A, c, hv, Rd.ext h he⟩), fun _ he => by cases he⟩, trivial⟩ ⟨?_, ?_, ?_, ?_, trivial⟩ ?_
            · intro wd hxE
              replace hb_g9 := hb_g9.ext hxE
              replace hcol := hcol.ext hxE
              replace hr := hr.ext hxE
              replace hrz := hrz.ext hxE
              replace hrc := hrc.ext hxE
              replace hrr := hrr.ext hxE
              replace hE := hE.tr hxE
              have hz_hxE := hxE.size
              show OpG _ _ _ _ _ _
              exact og_plain rfl (ox_val (ov_loadAt oc68 rfl hb_g9 rfl))
            · intro wd hxE
              replace hb_g9 := hb_g9.ext hxE
              replace hcol := hcol.ext hxE
              replace hr := hr.ext hxE
              replace hrz := hrz.ext hxE
              replace hrc := hrc.ext hxE
              replace hrr := hrr.ext hxE
              replace hE := hE.tr hxE
              have hz_hxE := hxE.size
              show OpG _ _ _ _ _ _
              exact og_plain rfl (ox_val (ov_move rfl))
            · intro wd hxE
              replace hb_g9 := hb_g9.ext hxE
              replace hcol := hcol.ext hxE
              replace hr := hr.ext hxE
              replace hrz := hrz.ext hxE
              replace hrc := hrc.ext hxE
              replace hrr := hrr.ext hxE
              replace hE := hE.tr hxE
              have hz_hxE := hxE.size
              show OpG _ _ _ _ _ _
              exact og_plain rfl (ox_val (ov_move rfl))
            · intro wd hxE
              replace hb_g9 := hb_g9.ext hxE
              replace hcol := hcol.ext hxE
              replace hr := hr.ext hxE
              replace hrz := hrz.ext hxE
              replace hrc := hrc.ext hxE
              replace hrr := hrr.ext hxE
              replace hE := hE.tr hxE
              have hz_hxE := hxE.size
              rintro _ rfl
              rintro _ rfl
              show OpG _ _ _ _ _ _
              have hcap66 := RdB.cap hrr
              refine og_plain rfl (OpRun.mono (or_bslice bt26 rfl hrr (bounds_h rfl (by omega) (by omega)) (by omega) (by omega) (by omega) (by omega)) ?_)
              rintro v _ ⟨rfl, A66, c66, rfl, hr66, hl66⟩
              have hs66 : (r.drop 0).take ((Int.toNat (↑n : Int)) - 0) = (r.take n) := (by rw [List.drop_zero, Nat.sub_zero, Int.toNat_natCast])
              rw [hs66] at hr66 hl66; rw [hs66]; clear hs66
              exact ⟨⟨A66, c66, rfl, hr66⟩, ext_refl _⟩
            · intro wf16 hf16
              replace hb_g9 := hb_g9.ext hf16
              replace hcol := hcol.ext hf16
              replace hr := hr.ext hf16
              replace hrz := hrz.ext hf16
              replace hrc := hrc.ext hf16
              replace hrr := hrr.ext hf16
              replace hE := hE.tr hf16
              have hz_hf16 := hf16.size
              rintro _ rfl
              rintro _ rfl
              rintro _ rfl
              rintro _ ⟨A66, c66, rfl, hr66⟩
              show WL _ _ _ [_] _ _ _
              refine wl_step (or_call0 cl38 rfl rfl (dfeed_ok _ w.heap.size gn32 D m cl l hcol.hdec (by omega) lo w.heap.size A66 c66 (r.take n) hr66 (by omega) (fun x e => by have := (hcol.hdec.lt.2 x e).1; omega) (by omega) (by rw [List.length_take]; omega))) rfl rfl rfl ?_
              rintro v w206 ⟨rfl, ⟨D67, hb67, hN67⟩, hC67⟩
              have h9 := hcol.hdec.neBlk hb_g9 (by decide) (by decide)
              replace hb_g9 := hC67.bk hb_g9 h9.1 h9.2
              replace hE := hC67.e0 hE (by omega) (fun x e => (hcol.hdec.lt.2 x e).1)
              have hz_E67 := hE.size
              replace hcol := hcol.feed hb67 hN67 hC67
              replace hr := hr0.ext hE
              replace hrz := hrz0.ext hE
              replace hrc := hrc0.ext hE
              replace hrr := hrr0.ext hE
              refine q_nil ?_
              refine k_then ?_
              refine wc_seq ?_
              refine wc_regionL ?_
              refine wl_val (ov_move rfl) rfl rfl rfl ?_
              refine wl_val (ov_move rfl) rfl rfl rfl ?_
              have hcap70 := RdB.cap hrr
              refine wl_step (or_bslice bt26 rfl hrr (bounds_l rfl (by omega) (by omega)) (by omega) (by omega) (by omega) (by omega)) rfl rfl rfl ?_
              rintro v _ ⟨rfl, A70, c70, rfl, hr70, hl70⟩
              have hs70 : (r.drop (Int.toNat (↑n : Int))).take (r.length - (Int.toNat (↑n : Int))) = (r.drop n) := (by rw [Int.toNat_natCast, List.take_of_length_le (by simp)])
              rw [hs70] at hr70 hl70; rw [hs70]; clear hs70
              have hrr2 := Rd.back hr70 hE (Nat.le_refl _)
              have heq2 : ys.map gotv ++ dall m cl (dfeed cl (dfeed cl l (r.take n)) (r.drop n)) = dall m false b := by rw [dfeed_feed, List.take_append_drop]; exact heq
              have hfl := dfeed_len cl l (r.take n)
              rw [List.length_take] at hfl
              have hdl : (r.drop n).length = r.length - n := List.length_drop
              refine wl_val (ov_assign rfl) rfl rfl rfl ?_
              refine q_nil ?_
              refine k_then ?_
              refine wc_seq ?_
              refine wc_regionL ?_
              refine wl_val (ov_assign rfl) rfl rfl rfl ?_
              refine q_nil ?_
              refine k_then ?_
              refine wc_block ?_
              refine wc_loop (σ := Nat) (fun s => 256 - s) (fun s => [(0, .slice A0 b.length c0), (1, .int .i64 (m : Int)), (2, .slice Z z.length cz), (3, .slice K kk.length ck), (9, .pointer (some ⟨g9, 0, none⟩)), (11, .pointer (some ⟨g11, 0, none⟩)), (12, .pointer (some ⟨g12, 0, none⟩)), (13, .func (.func 36) #[] #[.pointer (some ⟨g9, 0, none⟩), .pointer (some ⟨g11, 0, none⟩), .pointer (some ⟨g12, 0, none⟩)]), (14, .slice A70 (r.drop n).length c70), (15, .int .i64 (i : Int)), (17, .int .i64 (s : Int))]) (fun s w' => s ≤ 256 ∧ (∃ D cl l A c B d ys, Col w' w.heap.size g11 g12 gn32 D m cl l A c B d ys ∧ (List.map gotv ys ++ dall m cl (dfeed cl l (r.drop n)) = dall m false b) ∧ List.length l + List.length (r.drop n) ≤ 300) ∧ Blk w' g9 68 [.pointer (some ⟨gn32, 0, none⟩)] ∧ Ext w w') (0) (⟨Nat.zero_le _, ⟨D67, cl, _, A, c, B, d, ys, hcol, heq2, by omega⟩, hb_g9, hE⟩) (⟨rfl, rfl, rfl, rfl, rfl, rfl, rfl, rfl, rfl, rfl, rfl, trivial⟩) ?_
              rintro k wr ⟨hk0, ⟨Dk, clk, lk, Ak, ck2, Bk, dk, yk, hcol, heqk, hlk⟩, hb_g9, hE⟩
              show WC _ _ _ _ [(0, (.slice A0 b.length c0)), (1, (.int .i64 (↑m : Int))), (2, (.slice Z z.length cz)), (3, (.slice K kk.length ck)), (9, (.pointer (some ⟨g9, 0, none⟩))), (11, (.pointer (some ⟨g11, 0, none⟩))), (12, (.pointer (some ⟨g12, 0, none⟩))), (13, (.func (.func 36) #[] #[(.pointer (some ⟨g9, 0, none⟩)), (.pointer (some ⟨g11, 0, none⟩)), (.pointer (some ⟨g12, 0, none⟩))])), (14, (.slice A70 (r.drop n).length c70)), (15, (.int .i64 (↑i : Int))), (17, (.int .i64 (↑k : Int)))] _
              have hz_E := hE.size
              have hr := hr0.ext hE
              have hrz := hrz0.ext hE
              have hrc := hrc0.ext hE
              have hyl : yk.length ≤ 1099511627776 := by have h1 := congrArg List.length heqk; have h2 := dall_len hm _ false b (Nat.le_refl _); simp at h1; have h3 : dmeas false b ≤ b.length + 1 := (by unfold dmeas; split <;> omega); omega
              refine wc_seq ?_
              refine wc_seq ?_
              refine wc_regionL ?_
              refine wl_val (ov_move rfl) rfl rfl rfl ?_
              refine wl_val (ov_len Try.underlying26 rfl) rfl rfl rfl ?_
              refine wl_val (ov_gtr rfl rfl) rfl rfl rfl ?_
              refine wl_case_d (d := 73) rfl (fun h73 => ?_) (fun h73 => ?_)
              · refine wl_val (ov_move rfl) rfl rfl rfl ?_
                refine wl_gval (ov_move rfl) rfl rfl rfl rfl rfl ?_
                refine wl_gval (ov_move rfl) rfl rfl rfl rfl rfl ?_
                refine wl_gval (ov_move rfl) rfl rfl rfl rfl rfl ?_
                refine wl_gval (ov_move rfl) rfl rfl rfl rfl rfl ?_
                refine wl_gval (ov_len Try.underlying26 rfl) rfl rfl rfl rfl rfl ?_
                refine wl_gval (ov_rem rfl rfl (by omega) (show (_ : Int).tmod (_ : Int) = _ from (Int.ofNat_tmod _ _).symm)) rfl rfl rfl rfl rfl ?_
                have hmod := Nat.mod_lt i (show 0 < kk.length by omega)
                have hu81 := UInt8.toNat_lt (kk.getD (i % kk.length) 0)
                refine wl_gstep (or_bindex bt26 rfl rfl hrc (by omega) (by omega)) rfl rfl rfl rfl rfl ?_
                rintro v _ ⟨rfl, p81, rfl, hp81, hpl81, hph81⟩
                replace hp81 : World.cell? _ p81 = some (u8v (kk.getD (i % kk.length) 0)) := hp81
                refine wl_gval (ov_load oc5 rfl hp81) rfl rfl rfl rfl rfl ?_
                refine wl_gval (ov_conv Try.underlying5 Try.underlying3 rfl (wi64 (by omega) (by omega))) rfl rfl rfl rfl rfl ?_
                refine wl_gval (ov_lss rfl rfl) rfl rfl rfl rfl rfl ?_
                refine wl_val (ov_pick_t rfl rfl) rfl rfl rfl ?_
                refine q_nil ?_
                refine k_then ?_
                refine wc_cond_d rfl (fun hc5 => ?_) (fun hc5 => ?_)
                · refine q_skip ?_
                  refine k_then ?_
                  refine wc_seq ?_
                  refine wc_block ?_
                  refine wc_seq ?_
                  refine wc_regionL ?_
                  refine wl_val (ov_move rfl) rfl rfl rfl ?_
                  refine wl_step (or_call cl36 rfl rfl (take06_ok _ w g9 g11 g12 gn32 Dk m (by omega) clk lk (by omega) Ak ck2 Bk dk yk hyl hcol hb_g9 hE (by omega) (by omega) (by omega))) rfl rfl rfl ?_
                  rintro v w207 ⟨bb, cl2, l2, A2, c2, B2, d2, ys2, rfl, hcol2, hq2, hl2, hv2, hb_g9, hE⟩
                  replace hr := hr0.ext hE
                  replace hrz := hrz0.ext hE
                  replace hrc := hrc0.ext hE
                  refine wl_val (ov_not rfl) rfl rfl rfl ?_
                  refine q_nil ?_
                  refine k_then ?_
                  refine wc_cond rfl (fun hc6 => ?_) (fun hc6 => ?_)
                  · refine q_exit ?_
                    refine k_blockX rfl ?_
                    refine k_thenX ?_
                    refine k_thenX ?_
                    refine k_blockE ?_
                    refine k_block ?_
                    refine k_then ?_
                    refine wc_regionL ?_
                    refine wl_val (ov_move rfl) rfl rfl rfl ?_
                    refine wl_val (ov_add rfl rfl (wi64 (by omega) (by omega))) rfl rfl rfl ?_
                    refine wl_val (ov_assign rfl) rfl rfl rfl ?_
                    refine q_nil ?_
                    refine k_loop ((i + 1, A70, c70, r.drop n)) (by show (r.drop n).length < r.length; rw [List.length_drop]; omega) (⟨rfl, rfl, rfl, rfl, rfl, rfl, rfl, rfl, rfl, rfl, trivial⟩) (⟨hrr2, by show i + 1 + (r.drop n).length ≤ _; rw [List.length_drop]; omega, ⟨Dk, cl2, l2, A2, c2, B2, d2, ys2, hcol2, (hq2 _).trans heqk, by show l2.length + (r.drop n).length ≤ 300; omega⟩, hb_g9, hE⟩)
                  · refine q_skip ?_
                    refine k_block ?_
                    refine k_then ?_
                    refine wc_regionL ?_
                    refine wl_val (ov_move rfl) rfl rfl rfl ?_
                    refine wl_val (ov_add rfl rfl (wi64 (by omega) (by omega))) rfl rfl rfl ?_
                    refine wl_val (ov_assign rfl) rfl rfl rfl ?_
                    refine q_nil ?_
                    refine k_loop (k + 1) (by show 256 - (k + 1) < 256 - k; omega) (⟨rfl, rfl, rfl, rfl, rfl, rfl, rfl, rfl, rfl, rfl, rfl, trivial⟩) (⟨by omega, ⟨Dk, cl2, l2, A2, c2, B2, d2, ys2, hcol2, (hq2 _).trans heqk, by show l2.length + (r.drop n).length ≤ 300; omega⟩, hb_g9, hE⟩)
                · refine q_exit ?_
                  refine k_thenX ?_
                  refine k_thenX ?_
                  refine k_blockE ?_
                  refine k_block ?_
                  refine k_then ?_
                  refine wc_regionL ?_
                  refine wl_val (ov_move rfl) rfl rfl rfl ?_
                  refine wl_val (ov_add rfl rfl (wi64 (by omega) (by omega))) rfl rfl rfl ?_
                  refine wl_val (ov_assign rfl) rfl rfl rfl ?_
                  refine q_nil ?_
                  refine k_loop ((i + 1, A70, c70, r.drop n)) (by show (r.drop n).length < r.length; rw [List.length_drop]; omega) (⟨rfl, rfl, rfl, rfl, rfl, rfl, rfl, rfl, rfl, rfl, trivial⟩) (⟨hrr2, by show i + 1 + (r.drop n).length ≤ _; rw [List.length_drop]; omega, ⟨Dk, clk, lk, Ak, ck2, Bk, dk, yk, hcol, heqk, hlk⟩, hb_g9, hE⟩)
              · refine wl_val (ov_move rfl) rfl rfl rfl ?_
                refine wl_gskip rfl rfl rfl rfl rfl rfl ?_
                refine wl_gskip rfl rfl rfl rfl rfl rfl ?_
                refine wl_gskip rfl rfl rfl rfl rfl rfl ?_
                refine wl_gskip rfl rfl rfl rfl rfl rfl ?_
                refine wl_gskip rfl rfl rfl rfl rfl rfl ?_
                refine wl_gskip rfl rfl rfl rfl rfl rfl ?_
                refine wl_gskip rfl rfl rfl rfl rfl rfl ?_
                refine wl_gskip rfl rfl rfl rfl rfl rfl ?_
                refine wl_gskip rfl rfl rfl rfl rfl rfl ?_
                refine wl_gskip rfl rfl rfl rfl rfl rfl ?_
                refine wl_val (ov_pick_f rfl rfl) rfl rfl rfl ?_
                refine q_nil ?_
                refine k_then ?_
                refine wc_cond_f rfl ?_
                refine q_exit ?_
                refine k_thenX ?_
                refine k_thenX ?_
                refine k_blockE ?_
                refine k_block ?_
                refine k_then ?_
                refine wc_regionL ?_
                refine wl_val (ov_move rfl) rfl rfl rfl ?_
                refine wl_val (ov_add rfl rfl (wi64 (by omega) (by omega))) rfl rfl rfl ?_
                refine wl_val (ov_assign rfl) rfl rfl rfl ?_
                refine q_nil ?_
                refine k_loop ((i + 1, A70, c70, r.drop n)) (by show (r.drop n).length < r.length; rw [List.length_drop]; omega) (⟨rfl, rfl, rfl, rfl, rfl, rfl, rfl, rfl, rfl, rfl, trivial⟩) (⟨hrr2, by show i + 1 + (r.drop n).length ≤ _; rw [List.length_drop]; omega, ⟨Dk, clk, lk, Ak, ck2, Bk, dk, yk, hcol, heqk, hlk⟩, hb_g9, hE⟩)
          · obtain ⟨n, hn, hn1, hnr⟩ : ∃ n : Nat, (1 : Int) = (n : Int) ∧ 1 ≤ n ∧ n ≤ r.length := ⟨1, rfl, by omega, by omega⟩
            refine q_skip ?_
            refine k_then ?_
            refine wc_seq ?_
            refine wc_spell (d := 16) rfl (v' := .int .i64 (n : Int)) (by rw [hn]) ?_
            refine wc_draw mixed 4 [(63, eqv (.pointer (some ⟨gn32, 0, none⟩))), (64, eqv (.slice Ar r.length cr)), (65, eqv (.int .i64 (↑n : Int))), (66, (fun v w' => ∃ A66 c66, v = .slice A66 (r.take n).length c66 ∧ RdB w' lo w.heap.size A66 c66 (r.take n)))] [[], [], [], [1, 2]] _ [] [] (fun _ _ h => h) trivial (by kernel_rfl) rfl ⟨⟨stb_eqv _, fun _ he => by cases he⟩, ⟨stb_eqv _, fun _ he => by cases he⟩, ⟨stb_eqv _, fun _ he => by cases he⟩, ⟨(fun v a b ⟨A, c, hv, h⟩ he => ⟨A, c, hv, Rd.ext h he⟩), fun _ he => by cases he⟩, trivial⟩ ⟨?_, ?_, ?_, ?_, trivial⟩ ?_
            · intro wd hxE
              replace hb_g9 := hb_g9.ext hxE
              replace hcol := hcol.ext hxE
              replace hr := hr.ext hxE
              replace hrz := hrz.ext hxE
              replace hrc := hrc.ext hxE
              replace hrr := hrr.ext hxE
              replace hE := hE.tr hxE
              have hz_hxE := hxE.size
              show OpG _ _ _ _ _ _
              exact og_plain rfl (ox_val (ov_loadAt oc68 rfl hb_g9 rfl))
            · intro wd hxE
              replace hb_g9 := hb_g9.ext hxE
              replace hcol := hcol.ext hxE
              replace hr := hr.ext hxE
              replace hrz := hrz.ext hxE
              replace hrc := hrc.ext hxE
              replace hrr := hrr.ext hxE
              replace hE := hE.tr hxE
              have hz_hxE := hxE.size
              show OpG _ _ _ _ _ _
              exact og_plain rfl (ox_val (ov_move rfl))
            · intro wd hxE
              replace hb_g9 := hb_g9.ext hxE
              replace hcol := hcol.ext hxE
              replace hr := hr.ext hxE
              replace hrz := hrz.ext hxE
              replace hrc := hrc.ext hxE
              replace hrr := hrr.ext hxE
              replace hE := hE.tr hxE
              have hz_hxE := hxE.size
              show OpG _ _ _ _ _ _
              exact og_plain rfl (ox_val (ov_move rfl))
            · intro wd hxE
              replace hb_g9 := hb_g9.ext hxE
              replace hcol := hcol.ext hxE
              replace hr := hr.ext hxE
              replace hrz := hrz.ext hxE
              replace hrc := hrc.ext hxE
              replace hrr := hrr.ext hxE
              replace hE := hE.tr hxE
              have hz_hxE := hxE.size
              rintro _ rfl
              rintro _ rfl
              show OpG _ _ _ _ _ _
              have hcap66 := RdB.cap hrr
              refine og_plain rfl (OpRun.mono (or_bslice bt26 rfl hrr (bounds_h rfl (by omega) (by omega)) (by omega) (by omega) (by omega) (by omega)) ?_)
              rintro v _ ⟨rfl, A66, c66, rfl, hr66, hl66⟩
              have hs66 : (r.drop 0).take ((Int.toNat (↑n : Int)) - 0) = (r.take n) := (by rw [List.drop_zero, Nat.sub_zero, Int.toNat_natCast])
              rw [hs66] at hr66 hl66; rw [hs66]; clear hs66
              exact ⟨⟨A66, c66, rfl, hr66⟩, ext_refl _⟩
            · intro wf16 hf16
              replace hb_g9 := hb_g9.ext hf16
              replace hcol := hcol.ext hf16
              replace hr := hr.ext hf16
              replace hrz := hrz.ext hf16
              replace hrc := hrc.ext hf16
              replace hrr := hrr.ext hf16
              replace hE := hE.tr hf16
              have hz_hf16 := hf16.size
              rintro _ rfl
              rintro _ rfl
              rintro _ rfl
              rintro _ ⟨A66, c66, rfl, hr66⟩
              show WL _ _ _ [_] _ _ _
              refine wl_step (or_call0 cl38 rfl rfl (dfeed_ok _ w.heap.size gn32 D m cl l hcol.hdec (by omega) lo w.heap.size A66 c66 (r.take n) hr66 (by omega) (fun x e => by have := (hcol.hdec.lt.2 x e).1; omega) (by omega) (by rw [List.length_take]; omega))) rfl rfl rfl ?_
              rintro v w206 ⟨rfl, ⟨D67, hb67, hN67⟩, hC67⟩
              have h9 := hcol.hdec.neBlk hb_g9 (by decide) (by decide)
              replace hb_g9 := hC67.bk hb_g9 h9.1 h9.2
              replace hE := hC67.e0 hE (by omega) (fun x e => (hcol.hdec.lt.2 x e).1)
              have hz_E67 := hE.size
              replace hcol := hcol.feed hb67 hN67 hC67
              replace hr := hr0.ext hE
              replace hrz := hrz0.ext hE
              replace hrc := hrc0.ext hE
              replace hrr := hrr0.ext hE
              refine q_nil ?_
              refine k_then ?_
              refine wc_seq ?_
              refine wc_regionL ?_
              refine wl_val (ov_move rfl) rfl rfl rfl ?_
              refine wl_val (ov_move rfl) rfl rfl rfl ?_
              have hcap70 := RdB.cap hrr
              refine wl_step (or_bslice bt26 rfl hrr (bounds_l rfl (by omega) (by omega)) (by omega) (by omega) (by omega) (by omega)) rfl rfl rfl ?_
              rintro v _ ⟨rfl, A70, c70, rfl, hr70, hl70⟩
              have hs70 : (r.drop (Int.toNat (↑n : Int))).take (r.length - (Int.toNat (↑n : Int))) = (r.drop n) := (by rw [Int.toNat_natCast, List.take_of_length_le (by simp)])
              rw [hs70] at hr70 hl70; rw [hs70]; clear hs70
              have hrr2 := Rd.back hr70 hE (Nat.le_refl _)
              have heq2 : ys.map gotv ++ dall m cl (dfeed cl (dfeed cl l (r.take n)) (r.drop n)) = dall m false b := by rw [dfeed_feed, List.take_append_drop]; exact heq
              have hfl := dfeed_len cl l (r.take n)
              rw [List.length_take] at hfl
              have hdl : (r.drop n).length = r.length - n := List.length_drop
              refine wl_val (ov_assign rfl) rfl rfl rfl ?_
              refine q_nil ?_
              refine k_then ?_
              refine wc_seq ?_
              refine wc_regionL ?_
              refine wl_val (ov_assign rfl) rfl rfl rfl ?_
              refine q_nil ?_
              refine k_then ?_
              refine wc_block ?_
              refine wc_loop (σ := Nat) (fun s => 256 - s) (fun s => [(0, .slice A0 b.length c0), (1, .int .i64 (m : Int)), (2, .slice Z z.length cz), (3, .slice K kk.length ck), (9, .pointer (some ⟨g9, 0, none⟩)), (11, .pointer (some ⟨g11, 0, none⟩)), (12, .pointer (some ⟨g12, 0, none⟩)), (13, .func (.func 36) #[] #[.pointer (some ⟨g9, 0, none⟩), .pointer (some ⟨g11, 0, none⟩), .pointer (some ⟨g12, 0, none⟩)]), (14, .slice A70 (r.drop n).length c70), (15, .int .i64 (i : Int)), (17, .int .i64 (s : Int))]) (fun s w' => s ≤ 256 ∧ (∃ D cl l A c B d ys, Col w' w.heap.size g11 g12 gn32 D m cl l A c B d ys ∧ (List.map gotv ys ++ dall m cl (dfeed cl l (r.drop n)) = dall m false b) ∧ List.length l + List.length (r.drop n) ≤ 300) ∧ Blk w' g9 68 [.pointer (some ⟨gn32, 0, none⟩)] ∧ Ext w w') (0) (⟨Nat.zero_le _, ⟨D67, cl, _, A, c, B, d, ys, hcol, heq2, by omega⟩, hb_g9, hE⟩) (⟨rfl, rfl, rfl, rfl, rfl, rfl, rfl, rfl, rfl, rfl, rfl, trivial⟩) ?_
              rintro k wr ⟨hk0, ⟨Dk, clk, lk, Ak, ck2, Bk, dk, yk, hcol, heqk, hlk⟩, hb_g9, hE⟩
              show WC _ _ _ _ [(0, (.slice A0 b.length c0)), (1, (.int .i64 (↑m : Int))), (2, (.slice Z z.length cz)), (3, (.slice K kk.length ck)), (9, (.pointer (some ⟨g9, 0, none⟩))), (11, (.pointer (some ⟨g11, 0, none⟩))), (12, (.pointer (some ⟨g12, 0, none⟩))), (13, (.func (.func 36) #[] #[(.pointer (some ⟨g9, 0, none⟩)), (.pointer (some ⟨g11, 0, none⟩)), (.pointer (some ⟨g12, 0, none⟩))])), (14, (.slice A70 (r.drop n).length c70)), (15, (.int .i64 (↑i : Int))), (17, (.int .i64 (↑k : Int)))] _
              have hz_E := hE.size
              have hr := hr0.ext hE
              have hrz := hrz0.ext hE
              have hrc := hrc0.ext hE
              have hyl : yk.length ≤ 1099511627776 := by have h1 := congrArg List.length heqk; have h2 := dall_len hm _ false b (Nat.le_refl _); simp at h1; have h3 : dmeas false b ≤ b.length + 1 := (by unfold dmeas; split <;> omega); omega
              refine wc_seq ?_
              refine wc_seq ?_
              refine wc_regionL ?_
              refine wl_val (ov_move rfl) rfl rfl rfl ?_
              refine wl_val (ov_len Try.underlying26 rfl) rfl rfl rfl ?_
              refine wl_val (ov_gtr rfl rfl) rfl rfl rfl ?_
              refine wl_case_d (d := 73) rfl (fun h73 => ?_) (fun h73 => ?_)
              · refine wl_val (ov_move rfl) rfl rfl rfl ?_
                refine wl_gval (ov_move rfl) rfl rfl rfl rfl rfl ?_
                refine wl_gval (ov_move rfl) rfl rfl rfl rfl rfl ?_
                refine wl_gval (ov_move rfl) rfl rfl rfl rfl rfl ?_
                refine wl_gval (ov_move rfl) rfl rfl rfl rfl rfl ?_
                refine wl_gval (ov_len Try.underlying26 rfl) rfl rfl rfl rfl rfl ?_
                refine wl_gval (ov_rem rfl rfl (by omega) (show (_ : Int).tmod (_ : Int) = _ from (Int.ofNat_tmod _ _).symm)) rfl rfl rfl rfl rfl ?_
                have hmod := Nat.mod_lt i (show 0 < kk.length by omega)
                have hu81 := UInt8.toNat_lt (kk.getD (i % kk.length) 0)
                refine wl_gstep (or_bindex bt26 rfl rfl hrc (by omega) (by omega)) rfl rfl rfl rfl rfl ?_
                rintro v _ ⟨rfl, p81, rfl, hp81, hpl81, hph81⟩
                replace hp81 : World.cell? _ p81 = some (u8v (kk.getD (i % kk.length) 0)) := hp81
                refine wl_gval (ov_load oc5 rfl hp81) rfl rfl rfl rfl rfl ?_
                refine wl_gval (ov_conv Try.underlying5 Try.underlying3 rfl (wi64 (by omega) (by omega))) rfl rfl rfl rfl rfl ?_
                refine wl_gval (ov_lss rfl rfl) rfl rfl rfl rfl rfl ?_
                refine wl_val (ov_pick_t rfl rfl) rfl rfl rfl ?_
                refine q_nil ?_
                refine k_then ?_
                refine wc_cond_d rfl (fun hc5 => ?_) (fun hc5 => ?_)
                · refine q_skip ?_
                  refine k_then ?_
                  refine wc_seq ?_
                  refine wc_block ?_
                  refine wc_seq ?_
                  refine wc_regionL ?_
                  refine wl_val (ov_move rfl) rfl rfl rfl ?_
                  refine wl_step (or_call cl36 rfl rfl (take06_ok _ w g9 g11 g12 gn32 Dk m (by omega) clk lk (by omega) Ak ck2 Bk dk yk hyl hcol hb_g9 hE (by omega) (by omega) (by omega))) rfl rfl rfl ?_
                  rintro v w207 ⟨bb, cl2, l2, A2, c2, B2, d2, ys2, rfl, hcol2, hq2, hl2, hv2, hb_g9, hE⟩
                  replace hr := hr0.ext hE
                  replace hrz := hrz0.ext hE
                  replace hrc := hrc0.ext hE
                  refine wl_val (ov_not rfl) rfl rfl rfl ?_
                  refine q_nil ?_
                  refine k_then ?_
                  refine wc_cond rfl (fun hc6 => ?_) (fun hc6 => ?_)
                  · refine q_exit ?_
                    refine k_blockX rfl ?_
                    refine k_thenX ?_
                    refine k_thenX ?_
                    refine k_blockE ?_
                    refine k_block ?_
                    refine k_then ?_
                    refine wc_regionL ?_
                    refine wl_val (ov_move rfl) rfl rfl rfl ?_
                    refine wl_val (ov_add rfl rfl (wi64 (by omega) (by omega))) rfl rfl rfl ?_
                    refine wl_val (ov_assign rfl) rfl rfl rfl ?_
                    refine q_nil ?_
                    refine k_loop ((i + 1, A70, c70, r.drop n)) (by show (r.drop n).length < r.length; rw [List.length_drop]; omega) (⟨rfl, rfl, rfl, rfl, rfl, rfl, rfl, rfl, rfl, rfl, trivial⟩) (⟨hrr2, by show i + 1 + (r.drop n).length ≤ _; rw [List.length_drop]; omega, ⟨Dk, cl2, l2, A2, c2, B2, d2, ys2, hcol2, (hq2 _).trans heqk, by show l2.length + (r.drop n).length ≤ 300; omega⟩, hb_g9, hE⟩)
                  · refine q_skip ?_
                    refine k_block ?_
                    refine k_then ?_
                    refine wc_regionL ?_
                    refine wl_val (ov_move rfl) rfl rfl rfl ?_
                    refine wl_val (ov_add rfl rfl (wi64 (by omega) (by omega))) rfl rfl rfl ?_
                    refine wl_val (ov_assign rfl) rfl rfl rfl ?_
                    refine q_nil ?_
                    refine k_loop (k + 1) (by show 256 - (k + 1) < 256 - k; omega) (⟨rfl, rfl, rfl, rfl, rfl, rfl, rfl, rfl, rfl, rfl, rfl, trivial⟩) (⟨by omega, ⟨Dk, cl2, l2, A2, c2, B2, d2, ys2, hcol2, (hq2 _).trans heqk, by show l2.length + (r.drop n).length ≤ 300; omega⟩, hb_g9, hE⟩)
                · refine q_exit ?_
                  refine k_thenX ?_
                  refine k_thenX ?_
                  refine k_blockE ?_
                  refine k_block ?_
                  refine k_then ?_
                  refine wc_regionL ?_
                  refine wl_val (ov_move rfl) rfl rfl rfl ?_
                  refine wl_val (ov_add rfl rfl (wi64 (by omega) (by omega))) rfl rfl rfl ?_
                  refine wl_val (ov_assign rfl) rfl rfl rfl ?_
                  refine q_nil ?_
                  refine k_loop ((i + 1, A70, c70, r.drop n)) (by show (r.drop n).length < r.length; rw [List.length_drop]; omega) (⟨rfl, rfl, rfl, rfl, rfl, rfl, rfl, rfl, rfl, rfl, trivial⟩) (⟨hrr2, by show i + 1 + (r.drop n).length ≤ _; rw [List.length_drop]; omega, ⟨Dk, clk, lk, Ak, ck2, Bk, dk, yk, hcol, heqk, hlk⟩, hb_g9, hE⟩)
              · refine wl_val (ov_move rfl) rfl rfl rfl ?_
                refine wl_gskip rfl rfl rfl rfl rfl rfl ?_
                refine wl_gskip rfl rfl rfl rfl rfl rfl ?_
                refine wl_gskip rfl rfl rfl rfl rfl rfl ?_
                refine wl_gskip rfl rfl rfl rfl rfl rfl ?_
                refine wl_gskip rfl rfl rfl rfl rfl rfl ?_
                refine wl_gskip rfl rfl rfl rfl rfl rfl ?_
                refine wl_gskip rfl rfl rfl rfl rfl rfl ?_
                refine wl_gskip rfl rfl rfl rfl rfl rfl ?_
                refine wl_gskip rfl rfl rfl rfl rfl rfl ?_
                refine wl_gskip rfl rfl rfl rfl rfl rfl ?_
                refine wl_val (ov_pick_f rfl rfl) rfl rfl rfl ?_
                refine q_nil ?_
                refine k_then ?_
                refine wc_cond_f rfl ?_
                refine q_exit ?_
                refine k_thenX ?_
                refine k_thenX ?_
                refine k_blockE ?_
                refine k_block ?_
                refine k_then ?_
                refine wc_regionL ?_
                refine wl_val (ov_move rfl) rfl rfl rfl ?_
                refine wl_val (ov_add rfl rfl (wi64 (by omega) (by omega))) rfl rfl rfl ?_
                refine wl_val (ov_assign rfl) rfl rfl rfl ?_
                refine q_nil ?_
                refine k_loop ((i + 1, A70, c70, r.drop n)) (by show (r.drop n).length < r.length; rw [List.length_drop]; omega) (⟨rfl, rfl, rfl, rfl, rfl, rfl, rfl, rfl, rfl, rfl, trivial⟩) (⟨hrr2, by show i + 1 + (r.drop n).length ≤ _; rw [List.length_drop]; omega, ⟨Dk, clk, lk, Ak, ck2, Bk, dk, yk, hcol, heqk, hlk⟩, hb_g9, hE⟩)
        · obtain rfl : r = [] := List.eq_nil_of_length_eq_zero (by omega)
          rw [dfeed_n0] at heq
          refine q_exit ?_
          refine k_thenX ?_
          refine k_thenX ?_
          refine k_blockE ?_
          refine k_then ?_
          refine wc_seq ?_
          refine wc_block ?_
          refine wc_loop (σ := Bool × List UInt8) (fun s => dmeas s.1 s.2) (fun s => [(0, .slice A0 b.length c0), (1, .int .i64 (m : Int)), (9, .pointer (some ⟨g9, 0, none⟩)), (11, .pointer (some ⟨g11, 0, none⟩)), (12, .pointer (some ⟨g12, 0, none⟩)), (13, .func (.func 36) #[] #[.pointer (some ⟨g9, 0, none⟩), .pointer (some ⟨g11, 0, none⟩), .pointer (some ⟨g12, 0, none⟩)])]) (fun s w' => (∃ D A c B d ys, Col w' w.heap.size g11 g12 gn32 D m s.1 s.2 A c B d ys ∧ (List.map gotv ys ++ dall m s.1 s.2 = dall m false b)) ∧ s.2.length ≤ 300 ∧ Blk w' g9 68 [.pointer (some ⟨gn32, 0, none⟩)] ∧ Ext w w') ((cl, l)) (⟨⟨D, A, c, B, d, ys, hcol, heq⟩, by show l.length ≤ 300; omega, hb_g9, hE⟩) (⟨rfl, rfl, rfl, rfl, rfl, rfl, trivial⟩) ?_
          rintro ⟨clk, lk⟩ wr ⟨⟨Dk, Ak, ck2, Bk, dk, yk, hcol, heqk⟩, hlk, hb_g9, hE⟩
          show WC _ _ _ _ [(0, (.slice A0 b.length c0)), (1, (.int .i64 (↑m : Int))), (9, (.pointer (some ⟨g9, 0, none⟩))), (11, (.pointer (some ⟨g11, 0, none⟩))), (12, (.pointer (some ⟨g12, 0, none⟩))), (13, (.func (.func 36) #[] #[(.pointer (some ⟨g9, 0, none⟩)), (.pointer (some ⟨g11, 0, none⟩)), (.pointer (some ⟨g12, 0, none⟩))]))] _
          replace hcol : Col wr w.heap.size g11 g12 gn32 Dk m clk lk Ak ck2 Bk dk yk := hcol
          replace heqk : yk.map gotv ++ dall m clk lk = dall m false b := heqk
          replace hlk : lk.length ≤ 300 := hlk
          have hz_E := hE.size
          have hr := hr0.ext hE
          have hrz := hrz0.ext hE
          have hrc := hrc0.ext hE
          have hyl : yk.length ≤ 1099511627776 := by have h1 := congrArg List.length heqk; have h2 := dall_len hm _ false b (Nat.le_refl _); simp at h1; have h3 : dmeas false b ≤ b.length + 1 := (by unfold dmeas; split <;> omega); omega
          refine wc_seq ?_
          refine wc_seq ?_
          refine wc_regionL ?_
          refine wl_val (ov_move rfl) rfl rfl rfl ?_
          refine wl_step (or_call cl36 rfl rfl (take06_ok _ w g9 g11 g12 gn32 Dk m (by omega) clk lk (by omega) Ak ck2 Bk dk yk hyl hcol hb_g9 hE (by omega) (by omega) (by omega))) rfl rfl rfl ?_
          rintro v w206 ⟨bb, cl2, l2, A2, c2, B2, d2, ys2, rfl, hcol2, hq2, hl2, hv2, hb_g9, hE⟩
          replace hr := hr0.ext hE
          replace hrz := hrz0.ext hE
          replace hrc := hrc0.ext hE
          refine q_nil ?_
          refine k_then ?_
          refine wc_cond rfl (fun hc7 => ?_) (fun hc7 => ?_)
          · have hq3 := hq2 []
            rw [dfeed_n0, dfeed_n0] at hq3
            refine q_skip ?_
            refine k_then ?_
            refine wc_block ?_
            refine q_exit ?_
            refine k_blockE ?_
            refine k_loop ((cl2, l2)) (hv2.elim (fun h => h.2) (fun h => absurd (hc7.symm.trans h.1) (by decide))) (⟨rfl, rfl, rfl, rfl, rfl, rfl, trivial⟩) (⟨⟨Dk, A2, c2, B2, d2, ys2, hcol2, hq3.trans heqk⟩, by show l2.length ≤ 300; omega, hb_g9, hE⟩)
          · have hq3 := hq2 []
            rw [dfeed_n0, dfeed_n0] at hq3
            have hz2 : ys2.map gotv = dall m false b := by rcases hv2 with h | h; exact absurd h.1 (by rw [hc7]; decide); rw [h.2, List.append_nil] at hq3; exact hq3.trans heqk
            obtain ⟨hdec, hb_g11, hoA, hb_g12, hoB, hFL, hsep⟩ := hcol2
            refine q_exit ?_
            refine k_thenX ?_
            refine k_thenX ?_
            refine k_blockE ?_
            refine k_then ?_
            refine wc_seq ?_
            refine wc_regionL ?_
            refine wl_val (ov_move rfl) rfl rfl rfl ?_
            refine wl_val (ov_move rfl) rfl rfl rfl ?_
            refine wl_val (ov_loadAt oc60 rfl hb_g11 rfl) rfl rfl rfl ?_
            refine wl_val (ov_loadAt oc64 rfl hb_g12 rfl) rfl rfl rfl ?_
            refine wl_step (or_call0 cl34 rfl rfl (lall_ok _ _ _ _ _ b hr (m) (by omega) (by first | omega | (simp; done)) _ _ _ _ _ _ _ _ ys2 (Own.rd hoA) (Rd.gots (Own.rd hoB)) (fun z hz => (OwnB.rd (hFL z hz)).mono (Nat.zero_le _) (Nat.le_refl _)) hz2)) rfl rfl rfl ?_
            rintro v w207 ⟨rfl, he97⟩
            replace hb_g11 := hb_g11.ext he97
            replace hb_g12 := hb_g12.ext he97
            replace hr := hr.ext he97
            replace hoA := Own.ext hoA he97
            replace hoB := Own.ext hoB he97
            replace hE := hE.tr he97
            have hz_he97 := he97.size
            refine wl_val (ov_move rfl) rfl rfl rfl ?_
            refine wl_gstep (or_call0 cl30 rfl rfl (known06_any _)) rfl rfl rfl rfl rfl ?_
            rintro v w208 ⟨rfl, he99⟩
            replace hb_g11 := hb_g11.ext he99
            replace hb_g12 := hb_g12.ext he99
            replace hr := hr.ext he99
            replace hoA := Own.ext hoA he99
            replace hoB := Own.ext hoB he99
            replace hE := hE.tr he99
            have hz_he99 := he99.size
            refine wl_val (ov_pick_t rfl rfl) rfl rfl rfl ?_
            refine wl_val (ov_assign rfl) rfl rfl rfl ?_
            refine q_nil ?_
            refine k_then ?_
            refine q_ret ?_
            refine e_ret rfl rfl ?_
            exact ⟨rfl, hE⟩

end Go.Proofs.Ytopfjpkjpmdhaaa
