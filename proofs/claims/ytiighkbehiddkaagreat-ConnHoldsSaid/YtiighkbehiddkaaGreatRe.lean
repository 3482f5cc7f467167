/-
 The parts of a response: their list, their contracts by letters.
-/
import Derived.Test.YtiighkbehiddkaaGreatRd
namespace Go.Proofs.YtiighkbehiddkaaGreat
open Go.RowKit
set_option linter.unusedVariables false
set_option maxRecDepth 4000
theorem ag162_2 : aggTy Tryz.prog 162 2 = true := by kernel_rfl
theorem cl111 : callable Tryz.prog 111 = true := by kernel_rfl
theorem cl112 : callable Tryz.prog 112 = true := by kernel_rfl
theorem cl113 : callable Tryz.prog 113 = true := by kernel_rfl
theorem cl114 : callable Tryz.prog 114 = true := by kernel_rfl
theorem cl115 : callable Tryz.prog 115 = true := by kernel_rfl
theorem cl116 : callable Tryz.prog 116 = true := by kernel_rfl
theorem cl117 : callable Tryz.prog 117 = true := by kernel_rfl
theorem pl162 : placesOf Tryz.prog 162 = some [(0, 1), (1, 1)] := by kernel_rfl
theorem sl155 : SliceTy Tryz.prog 155 162 2 16 (.agg #[.nilFunc, .nilFunc]) := sliceTy_mk Tryz.underlying155 (by kernel_rfl) rfl (by decide)
theorem sz162 : (Tryz.prog.info? 162).map (·.size) = some 2 := by kernel_rfl
theorem ze162 : zeroOf Tryz.prog 162 = some (.agg #[.nilFunc, .nilFunc]) := by kernel_rfl
/-- A part: its letter; the functions that write and read it. -/
def putF (p : UInt8) : Nat := if p = 118 then 130 else if p = 99 then 133 else if p = 111 then 135 else if p = 105 then 137 else if p = 109 then 139 else 141
def getF (p : UInt8) : Nat := if p = 118 then 132 else if p = 99 then 134 else if p = 111 then 136 else if p = 105 then 138 else if p = 109 then 140 else 142
def ptcell (p : UInt8) : List Value := [.func (.func (putF p)) #[] #[], .func (.func (getF p)) #[] #[]]
def ptc (ps : List UInt8) : List Value := ps.flatMap ptcell
theorem pl_a {op : Int} (h : op = 1 ∨ op = 2 ∨ op = 3) : pl op = [118, 99] ∧ plOk op = true := ⟨if_pos h, decide_eq_true (by omega)⟩
theorem pl_b {op : Int} (h : op = 4) : pl op = [111, 105] ∧ plOk op = true := by subst h; exact ⟨rfl, rfl⟩
theorem pl_c {op : Int} (h : op = 5) : pl op = [109, 105] ∧ plOk op = true := by subst h; exact ⟨rfl, rfl⟩
theorem pl_d {op : Int} (h : op = 15) : pl op = [110] ∧ plOk op = true := by subst h; exact ⟨rfl, rfl⟩
theorem pl_e {op : Int} (h1 : ¬ (op = 1 ∨ op = 2 ∨ op = 3)) (h2 : ¬ op = 4) (h3 : ¬ op = 5) (h4 : ¬ op = 15) : pl op = [99] := by unfold pl; rw [if_neg h1, if_neg h2, if_neg h3, if_neg h4]
theorem pl_cases (op : Int) : pl op = [118, 99] ∨ pl op = [111, 105] ∨ pl op = [109, 105] ∨ pl op = [110] ∨ pl op = [99] := by
 unfold pl
 repeat' split
 all_goals simp
theorem mk_v (w : World) :
  Fn Tryz.prog 112 #[] w (fun v w' => v = .agg #[.func (.func 130) #[] #[], .func (.func 132) #[] #[]] ∧ Ext w w')  := by
 have hE := ext_refl w
 refine fn_enter (args := []) Tryz.func112 rfl rfl rfl ?_
 show WC _ _ _ _ [] _
 refine wc_seq (wc_regionL ?_)
 refine wl_step (or_alloc (cs := [.nilFunc, .nilFunc]) ze162 rfl) rfl rfl rfl ?_
 rintro v w1 ⟨g0, rfl, hb_g0, he0, hl0, hu0⟩
 replace hE := hE.tr he0
 have hz_he0 := he0.size
 refine q_nil (k_then (wc_seq (wc_regionL ?_)))
 refine wl_val (ov_build (cs := [(.func (.func 130) #[] #[]), (.func (.func 132) #[] #[])]) ze162 pl162 rfl rfl) rfl rfl rfl ?_
 refine wl_step0 (or_storeBlk (vs := [(.func (.func 130) #[] #[]), (.func (.func 132) #[] #[])]) sz162 rfl rfl (by simp [Value.oneCell']) hb_g0 rfl) rfl rfl ?_
 rintro _ w2 ⟨hN2, hg2⟩
 have hz_hg2 := hg2.size
 replace hE := hE.gr hg2 (fun _ e => by cases e; omega)
 replace hb_g0 := hN2
 refine q_nil (k_then (q_ret ?_))
 refine e_retL (rs := [.cell 0 162]) (vs := [.agg #[(.func (.func 130) #[] #[]), (.func (.func 132) #[] #[])]]) rfl ⟨⟨_, _, [(.func (.func 130) #[] #[]), (.func (.func 132) #[] #[])], rfl, ag162_2, hb_g0, rfl⟩, trivial⟩ ?_
 exact ⟨rfl, hE⟩
theorem mk_c (w : World) :
  Fn Tryz.prog 113 #[] w (fun v w' => v = .agg #[.func (.func 133) #[] #[], .func (.func 134) #[] #[]] ∧ Ext w w')  := by
 have hE := ext_refl w
 refine fn_enter (args := []) Tryz.func113 rfl rfl rfl ?_
 show WC _ _ _ _ [] _
 refine wc_seq (wc_regionL ?_)
 refine wl_step (or_alloc (cs := [.nilFunc, .nilFunc]) ze162 rfl) rfl rfl rfl ?_
 rintro v w1 ⟨g0, rfl, hb_g0, he0, hl0, hu0⟩
 replace hE := hE.tr he0
 have hz_he0 := he0.size
 refine q_nil (k_then (wc_seq (wc_regionL ?_)))
 refine wl_val (ov_build (cs := [(.func (.func 133) #[] #[]), (.func (.func 134) #[] #[])]) ze162 pl162 rfl rfl) rfl rfl rfl ?_
 refine wl_step0 (or_storeBlk (vs := [(.func (.func 133) #[] #[]), (.func (.func 134) #[] #[])]) sz162 rfl rfl (by simp [Value.oneCell']) hb_g0 rfl) rfl rfl ?_
 rintro _ w2 ⟨hN2, hg2⟩
 have hz_hg2 := hg2.size
 replace hE := hE.gr hg2 (fun _ e => by cases e; omega)
 replace hb_g0 := hN2
 refine q_nil (k_then (q_ret ?_))
 refine e_retL (rs := [.cell 0 162]) (vs := [.agg #[(.func (.func 133) #[] #[]), (.func (.func 134) #[] #[])]]) rfl ⟨⟨_, _, [(.func (.func 133) #[] #[]), (.func (.func 134) #[] #[])], rfl, ag162_2, hb_g0, rfl⟩, trivial⟩ ?_
 exact ⟨rfl, hE⟩
theorem mk_o (w : World) :
  Fn Tryz.prog 114 #[] w (fun v w' => v = .agg #[.func (.func 135) #[] #[], .func (.func 136) #[] #[]] ∧ Ext w w')  := by
 have hE := ext_refl w
 refine fn_enter (args := []) Tryz.func114 rfl rfl rfl ?_
 show WC _ _ _ _ [] _
 refine wc_seq (wc_regionL ?_)
 refine wl_step (or_alloc (cs := [.nilFunc, .nilFunc]) ze162 rfl) rfl rfl rfl ?_
 rintro v w1 ⟨g0, rfl, hb_g0, he0, hl0, hu0⟩
 replace hE := hE.tr he0
 have hz_he0 := he0.size
 refine q_nil (k_then (wc_seq (wc_regionL ?_)))
 refine wl_val (ov_build (cs := [(.func (.func 135) #[] #[]), (.func (.func 136) #[] #[])]) ze162 pl162 rfl rfl) rfl rfl rfl ?_
 refine wl_step0 (or_storeBlk (vs := [(.func (.func 135) #[] #[]), (.func (.func 136) #[] #[])]) sz162 rfl rfl (by simp [Value.oneCell']) hb_g0 rfl) rfl rfl ?_
 rintro _ w2 ⟨hN2, hg2⟩
 have hz_hg2 := hg2.size
 replace hE := hE.gr hg2 (fun _ e => by cases e; omega)
 replace hb_g0 := hN2
 refine q_nil (k_then (q_ret ?_))
 refine e_retL (rs := [.cell 0 162]) (vs := [.agg #[(.func (.func 135) #[] #[]), (.func (.func 136) #[] #[])]]) rfl ⟨⟨_, _, [(.func (.func 135) #[] #[]), (.func (.func 136) #[] #[])], rfl, ag162_2, hb_g0, rfl⟩, trivial⟩ ?_
 exact ⟨rfl, hE⟩
theorem mk_i (w : World) :
  Fn Tryz.prog 115 #[] w (fun v w' => v = .agg #[.func (.func 137) #[] #[], .func (.func 138) #[] #[]] ∧ Ext w w')  := by
 have hE := ext_refl w
 refine fn_enter (args := []) Tryz.func115 rfl rfl rfl ?_
 show WC _ _ _ _ [] _
 refine wc_seq (wc_regionL ?_)
 refine wl_step (or_alloc (cs := [.nilFunc, .nilFunc]) ze162 rfl) rfl rfl rfl ?_
 rintro v w1 ⟨g0, rfl, hb_g0, he0, hl0, hu0⟩
 replace hE := hE.tr he0
 have hz_he0 := he0.size
 refine q_nil (k_then (wc_seq (wc_regionL ?_)))
 refine wl_val (ov_build (cs := [(.func (.func 137) #[] #[]), (.func (.func 138) #[] #[])]) ze162 pl162 rfl rfl) rfl rfl rfl ?_
 refine wl_step0 (or_storeBlk (vs := [(.func (.func 137) #[] #[]), (.func (.func 138) #[] #[])]) sz162 rfl rfl (by simp [Value.oneCell']) hb_g0 rfl) rfl rfl ?_
 rintro _ w2 ⟨hN2, hg2⟩
 have hz_hg2 := hg2.size
 replace hE := hE.gr hg2 (fun _ e => by cases e; omega)
 replace hb_g0 := hN2
 refine q_nil (k_then (q_ret ?_))
 refine e_retL (rs := [.cell 0 162]) (vs := [.agg #[(.func (.func 137) #[] #[]), (.func (.func 138) #[] #[])]]) rfl ⟨⟨_, _, [(.func (.func 137) #[] #[]), (.func (.func 138) #[] #[])], rfl, ag162_2, hb_g0, rfl⟩, trivial⟩ ?_
 exact ⟨rfl, hE⟩
theorem mk_m (w : World) :
  Fn Tryz.prog 116 #[] w (fun v w' => v = .agg #[.func (.func 139) #[] #[], .func (.func 140) #[] #[]] ∧ Ext w w')  := by
 have hE := ext_refl w
 refine fn_enter (args := []) Tryz.func116 rfl rfl rfl ?_
 show WC _ _ _ _ [] _
 refine wc_seq (wc_regionL ?_)
 refine wl_step (or_alloc (cs := [.nilFunc, .nilFunc]) ze162 rfl) rfl rfl rfl ?_
 rintro v w1 ⟨g0, rfl, hb_g0, he0, hl0, hu0⟩
 replace hE := hE.tr he0
 have hz_he0 := he0.size
 refine q_nil (k_then (wc_seq (wc_regionL ?_)))
 refine wl_val (ov_build (cs := [(.func (.func 139) #[] #[]), (.func (.func 140) #[] #[])]) ze162 pl162 rfl rfl) rfl rfl rfl ?_
 refine wl_step0 (or_storeBlk (vs := [(.func (.func 139) #[] #[]), (.func (.func 140) #[] #[])]) sz162 rfl rfl (by simp [Value.oneCell']) hb_g0 rfl) rfl rfl ?_
 rintro _ w2 ⟨hN2, hg2⟩
 have hz_hg2 := hg2.size
 replace hE := hE.gr hg2 (fun _ e => by cases e; omega)
 replace hb_g0 := hN2
 refine q_nil (k_then (q_ret ?_))
 refine e_retL (rs := [.cell 0 162]) (vs := [.agg #[(.func (.func 139) #[] #[]), (.func (.func 140) #[] #[])]]) rfl ⟨⟨_, _, [(.func (.func 139) #[] #[]), (.func (.func 140) #[] #[])], rfl, ag162_2, hb_g0, rfl⟩, trivial⟩ ?_
 exact ⟨rfl, hE⟩
theorem mk_n (w : World) :
  Fn Tryz.prog 117 #[] w (fun v w' => v = .agg #[.func (.func 141) #[] #[], .func (.func 142) #[] #[]] ∧ Ext w w')  := by
 have hE := ext_refl w
 refine fn_enter (args := []) Tryz.func117 rfl rfl rfl ?_
 show WC _ _ _ _ [] _
 refine wc_seq (wc_regionL ?_)
 refine wl_step (or_alloc (cs := [.nilFunc, .nilFunc]) ze162 rfl) rfl rfl rfl ?_
 rintro v w1 ⟨g0, rfl, hb_g0, he0, hl0, hu0⟩
 replace hE := hE.tr he0
 have hz_he0 := he0.size
 refine q_nil (k_then (wc_seq (wc_regionL ?_)))
 refine wl_val (ov_build (cs := [(.func (.func 141) #[] #[]), (.func (.func 142) #[] #[])]) ze162 pl162 rfl rfl) rfl rfl rfl ?_
 refine wl_step0 (or_storeBlk (vs := [(.func (.func 141) #[] #[]), (.func (.func 142) #[] #[])]) sz162 rfl rfl (by simp [Value.oneCell']) hb_g0 rfl) rfl rfl ?_
 rintro _ w2 ⟨hN2, hg2⟩
 have hz_hg2 := hg2.size
 replace hE := hE.gr hg2 (fun _ e => by cases e; omega)
 replace hb_g0 := hN2
 refine q_nil (k_then (q_ret ?_))
 refine e_retL (rs := [.cell 0 162]) (vs := [.agg #[(.func (.func 141) #[] #[]), (.func (.func 142) #[] #[])]]) rfl ⟨⟨_, _, [(.func (.func 141) #[] #[]), (.func (.func 142) #[] #[])], rfl, ag162_2, hb_g0, rfl⟩, trivial⟩ ?_
 exact ⟨rfl, hE⟩
theorem all_any (w : World) (g n c : Nat) :
  Fn Tryz.prog 111 #[(.slice (some ⟨g, 0, none⟩) n c)] w (fun v w' => v = .slice (some ⟨g, 0, none⟩) n c ∧ w' = w)  := by
 refine fn_enter (args := [(.slice (some ⟨g, 0, none⟩) n c)]) Tryz.func111 rfl rfl rfl ?_
 show WC _ _ _ _ [(0, (.slice (some ⟨g, 0, none⟩) n c))] _
 refine wc_seq (wc_regionL ?_)
 refine va rfl rfl ?_
 refine q_nil (k_then (wc_seq (wc_regionL ?_)))
 refine vm rfl rfl ?_
 refine va rfl rfl ?_
 refine q_nil (k_then (q_ret ?_))
 refine e_ret rfl rfl ?_
 exact ⟨rfl, rfl⟩
theorem parts8_any (w : World) (op : Int) :
  Fn Tryz.prog 91 #[(.int .i64 op)] w (fun v w' => ∃ g, v = .tuple #[.slice (some ⟨g, 0, none⟩) (pl op).length (pl op).length, .bool (plOk op)] ∧ Blk w' g 162 (ptc (pl op)) ∧ Ext w w' ∧ w.heap.size ≤ g)  := by
 have hE := ext_refl w
 refine fn_enter (args := [(.int .i64 op)]) Tryz.func91 rfl rfl rfl ?_
 show WC _ _ _ _ [(0, (.int .i64 op))] _
 refine wc_seq (wc_regionL ?_)
 iterate 2 refine va rfl rfl ?_
 refine q_nil (k_then (wc_seq (wc_seq (wc_regionL ?_))))
 refine vm rfl rfl ?_
 refine q_nil (k_then (wc_block (wc_seq (wc_seq (wc_regionL ?_)))))
 refine ve rfl rfl rfl ?_
 refine va rfl rfl ?_
 refine q_nil (k_then ?_)
 refine wc_cond_d rfl (fun hc1 => ?_) (fun hc1 => ?_)
 ·refine q_skip (k_then ?_)
  refine wc_cond_T rfl (decide_eq_true hc1) ?_
  refine wc_seq (wc_regionL ?_)
  refine wl_step (or_call0 cl112 rfl rfl (mk_v _)) rfl rfl rfl ?_
  rintro v w1 ⟨rfl, he9⟩
  replace hE := hE.tr he9
  have hz_he9 := he9.size
  refine wl_step (or_call0 cl113 rfl rfl (mk_c _)) rfl rfl rfl ?_
  rintro v w2 ⟨rfl, he10⟩
  replace hE := hE.tr he10
  have hz_he10 := he10.size
  refine wl_step (or_buildSliceF (cs := [.func (.func 130) #[] #[], .func (.func 132) #[] #[], .func (.func 133) #[] #[], .func (.func 134) #[] #[]]) sl155 rfl (by kernel_rfl) (by decide) (by decide)) rfl rfl rfl ?_
  rintro v w3 ⟨g11, rfl, hb_g11, he11, hl11, hu11⟩
  replace hE := hE.tr he11
  have hz_he11 := he11.size
  refine wl_val (or_call0 cl111 rfl rfl (all_any _ _ _ _)) rfl rfl rfl ?_
  iterate 2 refine va rfl rfl ?_
  refine q_nil (k_then (q_ret (k_blockR (k_thenR ?_))))
  refine e_ret2 rfl rfl rfl ?_
  obtain ⟨e1, e2⟩ := pl_a (op := op) (by omega)
  refine ⟨g11, ?_, ?_, hE, by omega⟩
  ·rw [e1, e2]; rfl
  ·rw [e1]; exact hb_g11
 ·refine wc_seq (wc_regionL ?_)
  refine ve rfl rfl rfl ?_
  refine va rfl rfl ?_
  refine q_nil (k_then ?_)
  refine wc_cond_d rfl (fun hc2 => ?_) (fun hc2 => ?_)
  ·refine q_skip (k_then ?_)
   refine wc_cond_T rfl (decide_eq_true hc2) ?_
   refine wc_seq (wc_regionL ?_)
   refine wl_step (or_call0 cl112 rfl rfl (mk_v _)) rfl rfl rfl ?_
   rintro v w201 ⟨rfl, he9⟩
   replace hE := hE.tr he9
   have hz_he9 := he9.size
   refine wl_step (or_call0 cl113 rfl rfl (mk_c _)) rfl rfl rfl ?_
   rintro v w202 ⟨rfl, he10⟩
   replace hE := hE.tr he10
   have hz_he10 := he10.size
   refine wl_step (or_buildSliceF (cs := [.func (.func 130) #[] #[], .func (.func 132) #[] #[], .func (.func 133) #[] #[], .func (.func 134) #[] #[]]) sl155 rfl (by kernel_rfl) (by decide) (by decide)) rfl rfl rfl ?_
   rintro v w203 ⟨g11, rfl, hb_g11, he11, hl11, hu11⟩
   replace hE := hE.tr he11
   have hz_he11 := he11.size
   refine wl_val (or_call0 cl111 rfl rfl (all_any _ _ _ _)) rfl rfl rfl ?_
   iterate 2 refine va rfl rfl ?_
   refine q_nil (k_then (q_ret (k_blockR (k_thenR ?_))))
   refine e_ret2 rfl rfl rfl ?_
   obtain ⟨e1, e2⟩ := pl_a (op := op) (by omega)
   refine ⟨g11, ?_, ?_, hE, by omega⟩
   ·rw [e1, e2]; rfl
   ·rw [e1]; exact hb_g11
  ·refine wc_regionL ?_
   refine ve rfl rfl rfl ?_
   refine va rfl rfl ?_
   refine q_nil (k_then ?_)
   refine wc_cond_d rfl (fun hc3 => ?_) (fun hc3 => ?_)
   ·refine wc_seq (wc_regionL ?_)
    refine wl_step (or_call0 cl112 rfl rfl (mk_v _)) rfl rfl rfl ?_
    rintro v w201 ⟨rfl, he9⟩
    replace hE := hE.tr he9
    have hz_he9 := he9.size
    refine wl_step (or_call0 cl113 rfl rfl (mk_c _)) rfl rfl rfl ?_
    rintro v w202 ⟨rfl, he10⟩
    replace hE := hE.tr he10
    have hz_he10 := he10.size
    refine wl_step (or_buildSliceF (cs := [.func (.func 130) #[] #[], .func (.func 132) #[] #[], .func (.func 133) #[] #[], .func (.func 134) #[] #[]]) sl155 rfl (by kernel_rfl) (by decide) (by decide)) rfl rfl rfl ?_
    rintro v w203 ⟨g11, rfl, hb_g11, he11, hl11, hu11⟩
    replace hE := hE.tr he11
    have hz_he11 := he11.size
    refine wl_val (or_call0 cl111 rfl rfl (all_any _ _ _ _)) rfl rfl rfl ?_
    iterate 2 refine va rfl rfl ?_
    refine q_nil (k_then (q_ret (k_blockR (k_thenR ?_))))
    refine e_ret2 rfl rfl rfl ?_
    obtain ⟨e1, e2⟩ := pl_a (op := op) (by omega)
    refine ⟨g11, ?_, ?_, hE, by omega⟩
    ·rw [e1, e2]; rfl
    ·rw [e1]; exact hb_g11
   ·refine wc_seq (wc_regionL ?_)
    refine ve rfl rfl rfl ?_
    refine va rfl rfl ?_
    refine q_nil (k_then ?_)
    refine wc_cond_d rfl (fun hc4 => ?_) (fun hc4 => ?_)
    ·refine wc_seq (wc_regionL ?_)
     refine wl_step (or_call0 cl114 rfl rfl (mk_o _)) rfl rfl rfl ?_
     rintro v w201 ⟨rfl, he15⟩
     replace hE := hE.tr he15
     have hz_he15 := he15.size
     refine wl_step (or_call0 cl115 rfl rfl (mk_i _)) rfl rfl rfl ?_
     rintro v w202 ⟨rfl, he16⟩
     replace hE := hE.tr he16
     have hz_he16 := he16.size
     refine wl_step (or_buildSliceF (cs := [.func (.func 135) #[] #[], .func (.func 136) #[] #[], .func (.func 137) #[] #[], .func (.func 138) #[] #[]]) sl155 rfl (by kernel_rfl) (by decide) (by decide)) rfl rfl rfl ?_
     rintro v w203 ⟨g17, rfl, hb_g17, he17, hl17, hu17⟩
     replace hE := hE.tr he17
     have hz_he17 := he17.size
     refine wl_val (or_call0 cl111 rfl rfl (all_any _ _ _ _)) rfl rfl rfl ?_
     iterate 2 refine va rfl rfl ?_
     refine q_nil (k_then (q_ret (k_blockR (k_thenR ?_))))
     refine e_ret2 rfl rfl rfl ?_
     obtain ⟨e1, e2⟩ := pl_b (op := op) (by omega)
     refine ⟨g17, ?_, ?_, hE, by omega⟩
     ·rw [e1, e2]; rfl
     ·rw [e1]; exact hb_g17
    ·refine wc_seq (wc_regionL ?_)
     refine ve rfl rfl rfl ?_
     refine va rfl rfl ?_
     refine q_nil (k_then ?_)
     refine wc_cond_d rfl (fun hc5 => ?_) (fun hc5 => ?_)
     ·refine wc_seq (wc_regionL ?_)
      refine wl_step (or_call0 cl116 rfl rfl (mk_m _)) rfl rfl rfl ?_
      rintro v w201 ⟨rfl, he21⟩
      replace hE := hE.tr he21
      have hz_he21 := he21.size
      refine wl_step (or_call0 cl115 rfl rfl (mk_i _)) rfl rfl rfl ?_
      rintro v w202 ⟨rfl, he22⟩
      replace hE := hE.tr he22
      have hz_he22 := he22.size
      refine wl_step (or_buildSliceF (cs := [.func (.func 139) #[] #[], .func (.func 140) #[] #[], .func (.func 137) #[] #[], .func (.func 138) #[] #[]]) sl155 rfl (by kernel_rfl) (by decide) (by decide)) rfl rfl rfl ?_
      rintro v w203 ⟨g23, rfl, hb_g23, he23, hl23, hu23⟩
      replace hE := hE.tr he23
      have hz_he23 := he23.size
      refine wl_val (or_call0 cl111 rfl rfl (all_any _ _ _ _)) rfl rfl rfl ?_
      iterate 2 refine va rfl rfl ?_
      refine q_nil (k_then (q_ret (k_blockR (k_thenR ?_))))
      refine e_ret2 rfl rfl rfl ?_
      obtain ⟨e1, e2⟩ := pl_c (op := op) (by omega)
      refine ⟨g23, ?_, ?_, hE, by omega⟩
      ·rw [e1, e2]; rfl
      ·rw [e1]; exact hb_g23
     ·refine wc_seq (wc_regionL ?_)
      refine ve rfl rfl rfl ?_
      refine va rfl rfl ?_
      refine q_nil (k_then ?_)
      refine wc_cond_d rfl (fun hc6 => ?_) (fun hc6 => ?_)
      ·refine wc_seq (wc_regionL ?_)
       refine wl_step (or_call0 cl117 rfl rfl (mk_n _)) rfl rfl rfl ?_
       rintro v w201 ⟨rfl, he27⟩
       replace hE := hE.tr he27
       have hz_he27 := he27.size
       refine wl_step (or_buildSliceF (cs := [.func (.func 141) #[] #[], .func (.func 142) #[] #[]]) sl155 rfl (by kernel_rfl) (by decide) (by decide)) rfl rfl rfl ?_
       rintro v w202 ⟨g28, rfl, hb_g28, he28, hl28, hu28⟩
       replace hE := hE.tr he28
       have hz_he28 := he28.size
       refine wl_val (or_call0 cl111 rfl rfl (all_any _ _ _ _)) rfl rfl rfl ?_
       iterate 2 refine va rfl rfl ?_
       refine q_nil (k_then (q_ret (k_blockR (k_thenR ?_))))
       refine e_ret2 rfl rfl rfl ?_
       obtain ⟨e1, e2⟩ := pl_d (op := op) (by omega)
       refine ⟨g28, ?_, ?_, hE, by omega⟩
       ·rw [e1, e2]; rfl
       ·rw [e1]; exact hb_g28
      ·refine q_skip (k_block (k_then (wc_seq (wc_regionL ?_))))
       refine wl_step (or_call0 cl113 rfl rfl (mk_c _)) rfl rfl rfl ?_
       rintro v w201 ⟨rfl, he30⟩
       replace hE := hE.tr he30
       have hz_he30 := he30.size
       refine wl_step (or_buildSliceF (cs := [.func (.func 133) #[] #[], .func (.func 134) #[] #[]]) sl155 rfl (by kernel_rfl) (by decide) (by decide)) rfl rfl rfl ?_
       rintro v w202 ⟨g31, rfl, hb_g31, he31, hl31, hu31⟩
       replace hE := hE.tr he31
       have hz_he31 := he31.size
       refine wl_val (or_call0 cl111 rfl rfl (all_any _ _ _ _)) rfl rfl rfl ?_
       refine vm rfl rfl ?_
       refine wl_val (ov_gtr rfl rfl) rfl rfl rfl ?_
       refine wl_case_d (d := 34) rfl (fun h34 => ?_) (fun h34 => ?_)
       ·refine vm rfl rfl ?_
        refine wl_gval (ov_move rfl) rfl rfl rfl rfl rfl ?_
        refine wl_gval (ov_lss rfl rfl) rfl rfl rfl rfl rfl ?_
        refine wl_val (ov_pick_t rfl rfl) rfl rfl rfl ?_
        iterate 2 refine va rfl rfl ?_
        refine q_nil (k_then (q_ret ?_))
        refine e_ret2 rfl rfl rfl ?_
        have e1 := pl_e (op := op) (by omega) (by omega) (by omega) (by omega)
        refine ⟨g31, ?_, ?_, hE, by omega⟩
        ·rw [e1]; unfold plOk; first | (rw [decide_eq_false (show ¬ (1 ≤ op ∧ op ≤ 15) by omega)]; rfl) | (rw [show decide (1 ≤ op ∧ op ≤ 15) = decide (op < 15) from by rw [decide_eq_decide]; omega]; rfl)
        ·rw [e1]; exact hb_g31
       ·refine vm rfl rfl ?_
        iterate 2 refine wl_gskip rfl rfl rfl rfl rfl rfl ?_
        refine wl_val (ov_pick_f rfl rfl) rfl rfl rfl ?_
        iterate 2 refine va rfl rfl ?_
        refine q_nil (k_then (q_ret ?_))
        refine e_ret2 rfl rfl rfl ?_
        have e1 := pl_e (op := op) (by omega) (by omega) (by omega) (by omega)
        refine ⟨g31, ?_, ?_, hE, by omega⟩
        ·rw [e1]; unfold plOk; first | (rw [decide_eq_false (show ¬ (1 ≤ op ∧ op ≤ 15) by omega)]; rfl) | (rw [show decide (1 ≤ op ∧ op ≤ 15) = decide (op < 15) from by rw [decide_eq_decide]; omega]; rfl)
        ·rw [e1]; exact hb_g31
/-- Items that can be written over: none, or a block of one's own. -/
def RowI (w : World) (b : Nat) (X : Option Addr) (cx : Nat) (xs : List IT) : Prop := (X = none ∧ cx = 0 ∧ xs = []) ∨ ∃ ge, X = some ⟨ge, 0, none⟩ ∧ cx = xs.length ∧ cx ≤ 16 ∧ b ≤ ge ∧ Blk w ge 80 (xs.flatMap itc)
theorem RowI.ext {w w' : World} {b cx : Nat} {X : Option Addr} {xs : List IT} (h : RowI w b X cx xs) (he : Ext w w') : RowI w' b X cx xs := by
 rcases h with h | ⟨ge, h1, h2, h5, h3, h4⟩
 ·exact .inl h
 ·exact .inr ⟨ge, h1, h2, h5, h3, h4.ext he⟩
theorem RowI.kp {w w' : World} {gs : List Nat} {b cx : Nat} {X : Option Addr} {xs : List IT} (h : RowI w b X cx xs) (k : Kp gs w w') (hg : ∀ g ∈ gs, g < b) : RowI w' b X cx xs := by
 rcases h with h | ⟨ge, h1, h2, h5, h3, h4⟩
 ·exact .inl h
 ·exact .inr ⟨ge, h1, h2, h5, h3, k.bk h4 (fun hm => by have := hg _ hm; omega)⟩
theorem VR.kp {w w' : World} {gs : List Nat} {lo : Nat} {xs : List IT} (h : VR w lo xs) (k : Kp gs w w') (hg : ∀ g ∈ gs, g < lo) : VR w' lo xs :=
 fun x hx => (k.rd (h x hx) fun g hm => .inl (hg g hm)).mono (Nat.le_refl _) k.size
theorem VR.mono {w : World} {lo lo' : Nat} {xs : List IT} (h : VR w lo xs) (hl : lo' ≤ lo) : VR w lo' xs := fun x hx => (h x hx).mono hl (Nat.le_refl _)
/-- A response that is being read: its block; what is written into rows from b on; fr: nothing but empty items so far. -/
def RspAt (w : World) (gx b : Nat) (x : Rsp) (fr : Bool) : Prop :=
 ∃ X cx N cn xs, Blk w gx 43 (rspc x X cx N cn) ∧ vals xs = x.items ∧ RowI w b X cx xs ∧ VR w b xs ∧ RdN w b w.heap.size N cn x.nums ∧ (fr = true → N = none ∧ cn = 0 ∧ x.nums = [] ∧ xs = List.replicate xs.length zT)
theorem RspAt.ext {w w' : World} {gx b : Nat} {x : Rsp} {fr : Bool} (h : RspAt w gx b x fr) (he : Ext w w') : RspAt w' gx b x fr := by
 obtain ⟨X, cx, N, cn, xs, h1, h2, h3, h4, h5, h6⟩ := h
 exact ⟨X, cx, N, cn, xs, h1.ext he, h2, h3.ext he, h4.ext he, (Rd.ext h5 he).mono (Nat.le_refl _) he.size, h6⟩
theorem RdrAt8.ext {w w' : World} {g lo hi : Nat} {l : List UInt8} (h : RdrAt8 w g lo hi l) (he : Ext w w') : RdrAt8 w' g lo hi l := by
 obtain ⟨A, c, h1, h2⟩ := h; exact ⟨A, c, h1.ext he, h2.ext he⟩
def gX (p : UInt8) (x : Rsp) (l : List UInt8) : Rsp :=
 if p = 118 then { x with ver := nV l } else if p = 99 then { x with count := (nV l : Int) } else if p = 111 then { x with items := [zI] } else if p = 105 then { x with items := (iS x.items.length l).1 }
 else if p = 109 then { x with items := List.replicate (nV l) zI } else { x with nums := (uS (nV l) (nR l)).1 }
def gR (p : UInt8) (x : Rsp) (l : List UInt8) : List UInt8 := if p = 118 then nR l else if p = 99 then nR l else if p = 111 then l else if p = 105 then (iS x.items.length l).2.1 else if p = 109 then nR l else (uS (nV l) (nR l)).2.1
def gK (p : UInt8) (x : Rsp) (l : List UInt8) : Bool := if p = 118 then rK 18446744073709551615 l else if p = 99 then rK 1099511627776 l else if p = 111 then true else if p = 105 then (iS x.items.length l).2.2 else if p = 109 then rK 16 l && decide (0 < nV l) else uF l (nV l)
def gF (p : UInt8) (fr : Bool) : Bool := if p = 118 then fr else if p = 99 then fr else if p = 111 then fr else if p = 105 then false else if p = 109 then fr else false
def gpre (p : UInt8) (x : Rsp) (fr : Bool) : Prop := (p = 105 → fr = true ∧ x.items ≠ [] ∧ x.items.length ≤ 16) ∧ (p = 110 → fr = true)
def GetC (f : Nat) (p : UInt8) : Prop := ∀ (w0 w : World) (gx gr lo hi : Nat) (x : Rsp) (fr : Bool) (l : List UInt8), l.length ≤ 140737488355328 → Kp [gx, gr] w0 w → gx ≠ gr → (gx < lo ∨ hi ≤ gx) → (gr < lo ∨ hi ≤ gr) → gx < w0.heap.size → gr < w0.heap.size → hi ≤ w0.heap.size →
 RspAt w gx w0.heap.size x fr → RdrAt8 w gr lo hi l → gpre p x fr → Fn Tryz.prog f #[.pointer (some ⟨gr, 0, none⟩), .pointer (some ⟨gx, 0, none⟩)] w (fun v w' => v = .bool (gK p x l) ∧ Kp [gx, gr] w0 w' ∧ (gK p x l = true → RspAt w' gx w0.heap.size (gX p x l) (gF p fr) ∧ RdrAt8 w' gr lo hi (gR p x l)))
def RspOk (r : Rsp) : Prop := r.ver < 18446744073709551616 ∧ (∀ x ∈ r.items, x.ver < 18446744073709551616 ∧ x.dead < 18446744073709551616) ∧ (∀ n ∈ r.nums, n < 18446744073709551616) ∧ r.count ≤ 9223372036854775807
def PutC (f : Nat) (p : UInt8) : Prop := ∀ (w : World) (gb gx : Nat) (A : Option Addr) (c : Nat) (out : List UInt8) (b0 : Nat), b0 ≤ w.heap.size → Blk w gb 32 [.slice A out.length c] → OwnB w b0 5 A c out → out.length ≤ 35184372088832 → ∀ (r : Rsp) (xs : List IT), vals xs = r.items → ∀ (X : Option Addr) (cx : Nat) (N : Option Addr) (cn : Nat), Blk w gx 43 (rspc r X cx N cn) → gx ≠ gb →
 ∀ (lo hi : Nat), RdI w lo hi X cx xs → RdN w lo hi N cn r.nums → (gb < lo ∨ hi ≤ gb) → hi ≤ w.heap.size → RspOk r → out.length + rsz r ≤ 17592186044416 → Fn Tryz.prog f #[.pointer (some ⟨gb, 0, none⟩), .pointer (some ⟨gx, 0, none⟩)] w (fun v w' => v = .bool (okP r p) ∧ (∃ A' c' o', Blk w' gb 32 [.slice A' (List.length o') c'] ∧ OwnB w' b0 5 A' c' o' ∧ (okP r p = true → o' = out ++ putC r p)) ∧ Gr w w' (some gb))
theorem gC_v : GetC 132 118 := by
 intro w0 w gx gr lo hi x fr l hlen hK h1 h2 h3 h4 h5 h6 ⟨X, cx, N, cn, xs, hb, hv, hi_, hvr, hn, hf⟩ ⟨A, c, hbr, hr⟩ _
 have hz := hK.size
 refine (getv w gr lo hi A c l hbr hr h3 hlen gx x X cx N cn hb h1 h2 (by omega)).mono ?_
 rintro v w' ⟨rfl, hk, hok⟩
 refine ⟨rfl, hK.tr hk (by simp), fun h => ?_⟩
 obtain ⟨hb', hd'⟩ := hok h
 exact ⟨⟨X, cx, N, cn, xs, hb', hv, hi_.kp hk (by simp; omega), hvr.kp hk (by simp; omega), (hk.rd hn (by simp; omega)).mono (Nat.le_refl _) hk.size, hf⟩, hd'⟩
theorem gC_c : GetC 134 99 := by
 intro w0 w gx gr lo hi x fr l hlen hK h1 h2 h3 h4 h5 h6 ⟨X, cx, N, cn, xs, hb, hv, hi_, hvr, hn, hf⟩ ⟨A, c, hbr, hr⟩ _
 have hz := hK.size
 refine (getc w gr lo hi A c l hbr hr h3 hlen gx x X cx N cn hb h1 h2 (by omega)).mono ?_
 rintro v w' ⟨rfl, hk, hok⟩
 refine ⟨rfl, hK.tr hk (by simp), fun h => ?_⟩
 obtain ⟨hb', hd'⟩ := hok h
 exact ⟨⟨X, cx, N, cn, xs, hb', hv, hi_.kp hk (by simp; omega), hvr.kp hk (by simp; omega), (hk.rd hn (by simp; omega)).mono (Nat.le_refl _) hk.size, hf⟩, hd'⟩
theorem irows_nil (n : Nat) : irows [] n = (List.replicate n zT).flatMap itc := rfl
theorem vals_rep (n : Nat) : vals (List.replicate n zT) = List.replicate n zI := by unfold vals; rw [List.map_replicate]; rfl
theorem vr_rep (w : World) (b n : Nat) : VR w b (List.replicate n zT) := fun x hx => by rw [List.eq_of_mem_replicate hx]; exact RdB.nil _ _ _
theorem gC_o : GetC 136 111 := by
 intro w0 w gx gr lo hi x fr l hlen hK h1 h2 h3 h4 h5 h6 ⟨X, cx, N, cn, xs, hb, hv, hi_, hvr, hn, hf⟩ ⟨A, c, hbr, hr⟩ _
 have hz := hK.size
 refine (geto w gr lo hi A c l hbr hr h3 hlen gx x X cx N cn hb h1 h2 (by omega)).mono ?_
 rintro v w' ⟨rfl, hk, hok⟩
 refine ⟨rfl, hK.tr hk (by simp), fun h => ?_⟩
 obtain ⟨ge, hb', hbe, hle, hd'⟩ := hok rfl
 exact ⟨⟨some ⟨ge, 0, none⟩, 1, N, cn, [zT], hb', rfl, .inr ⟨ge, rfl, rfl, by decide, by omega, hbe⟩, vr_rep w' _ 1, (hk.rd hn (by simp; omega)).mono (Nat.le_refl _) hk.size, fun e => ⟨(hf e).1, (hf e).2.1, (hf e).2.2.1, rfl⟩⟩, hd'⟩
theorem gC_m : GetC 140 109 := by
 intro w0 w gx gr lo hi x fr l hlen hK h1 h2 h3 h4 h5 h6 ⟨X, cx, N, cn, xs, hb, hv, hi_, hvr, hn, hf⟩ ⟨A, c, hbr, hr⟩ _
 have hz := hK.size
 refine (getm w gr lo hi A c l hbr hr h3 hlen gx x X cx N cn hb h1 h2 (by omega)).mono ?_
 rintro v w' ⟨rfl, hk, hok⟩
 refine ⟨rfl, hK.tr hk (by simp), fun h => ?_⟩
 have h16 : nV l ≤ 16 := rK_le (by have h' : (rK 16 l && decide (0 < nV l)) = true := h; rw [Bool.and_eq_true] at h'; exact h'.1)
 obtain ⟨ge, hb', hbe, hle, hd'⟩ := hok h
 exact ⟨⟨some ⟨ge, 0, none⟩, nV l, N, cn, List.replicate (nV l) zT, hb', vals_rep _, .inr ⟨ge, rfl, List.length_replicate.symm, h16, by omega, hbe⟩, vr_rep w' _ _, (hk.rd hn (by simp; omega)).mono (Nat.le_refl _) hk.size, fun e => ⟨(hf e).1, (hf e).2.1, (hf e).2.2.1, by rw [List.length_replicate]⟩⟩, hd'⟩
theorem gC_i : GetC 138 105 := by
 intro w0 w gx gr lo hi x fr l hlen hK h1 h2 h3 h4 h5 h6 ⟨X, cx, N, cn, xs, hb, hv, hi_, hvr, hn, hf⟩ ⟨A, c, hbr, hr⟩ hp
 have hz := hK.size
 obtain ⟨hfr, hne, h16⟩ := hp.1 rfl
 have hxl : xs.length = x.items.length := by rw [← hv]; exact (List.length_map ..).symm
 rcases hi_ with ⟨_, _, e⟩ | ⟨ge, rfl, rfl, hc16, hge, hbe⟩
 ·subst e; exact absurd hv.symm hne
 have hlt := hbe.lt
 have hbe' : Blk w ge 80 (irows [] x.items.length) := by rw [irows_nil, ← hxl, ← (hf hfr).2.2.2]; exact hbe
 refine (geti w gr lo hi A c l hbr hr h3 hlen gx ge x _ N cn hb hbe' h1 h2 (by omega) (by omega) (.inr (by omega)) (by omega) h16).mono ?_
 rintro v w' ⟨rfl, hk, hok⟩
 refine ⟨rfl, hK.tr hk (by simp; omega), fun h => ?_⟩
 obtain ⟨ys, hyv, hbe2, hyr, hb2, hd'⟩ := hok h
 have hyl : ys.length = xs.length := by
  have e : (vals ys).length = ys.length := List.length_map ..
  rw [← e, hyv, (iS_len l _).1, hxl]
 refine ⟨⟨_, _, N, cn, ys, by unfold rspc; rw [show (gX 105 x l).items.length = x.items.length from (iS_len l _).1]; exact hb2, hyv, .inr ⟨ge, rfl, hyl.symm, hc16, hge, hbe2⟩, hyr.mono (by omega), ?_, fun e => by cases e⟩, hd'⟩
 have hn0 := (hf hfr).2.2.1
 show RdN w' _ _ N cn x.nums
 rw [(hf hfr).1, (hf hfr).2.1, hn0]
 exact Rd.nil _ _ _ _ _ _ (Nat.zero_le _)
theorem gC_n : GetC 142 110 := by
 intro w0 w gx gr lo hi x fr l hlen hK h1 h2 h3 h4 h5 h6 ⟨X, cx, N, cn, xs, hb, hv, hi_, hvr, hn, hf⟩ ⟨A, c, hbr, hr⟩ hp
 have hz := hK.size
 obtain ⟨rfl, rfl, hnu, _⟩ := hf (hp.2 rfl)
 refine (getn w gr lo hi A c l hbr hr h3 hlen gx x X cx hnu hb h1 h2 (by omega)).mono ?_
 rintro v w' ⟨rfl, hk, hok⟩
 refine ⟨rfl, hK.tr hk (by simp), fun h => ?_⟩
 obtain ⟨N, cn, hb', ho, hd'⟩ := hok h
 refine ⟨⟨X, cx, N, cn, xs, hb', hv, hi_.kp hk (by simp; omega), hvr.kp hk (by simp; omega), ?_, fun e => by cases e⟩, hd'⟩
 show Rd w' _ _ 1 N (uS (nV l) (nR l)).1.length cn _
 rw [(uS_len (nR l) (nV l)).1]
 exact (Own.rd ho).mono (by omega) (Nat.le_refl _)
theorem pC_v : PutC 130 118 := fun w gb gx A c out b0 hb0 hb ho hol r xs hxs X cx N cn hbx hne lo hi hx hn hxb hhi h hsz => putv w gb gx A c out hb0 hb ho hol r xs hxs X cx N cn hbx hne lo hi hx hn hxb hhi h.1 h.2.1 h.2.2.1 hsz
theorem pC_c : PutC 133 99 := fun w gb gx A c out b0 hb0 hb ho hol r xs hxs X cx N cn hbx hne lo hi hx hn hxb hhi h hsz => putc w gb gx A c out hb0 hb ho hol r xs hxs X cx N cn hbx hne lo hi hx hn hxb hhi h.1 h.2.1 h.2.2.1 hsz h.2.2.2
theorem pC_o : PutC 135 111 := fun w gb gx A c out b0 hb0 hb ho hol r xs hxs X cx N cn hbx hne lo hi hx hn hxb hhi h hsz => puto w gb gx A c out hb0 hb ho hol r xs hxs X cx N cn hbx hne lo hi hx hn hxb hhi h.1 h.2.1 h.2.2.1 hsz
theorem pC_m : PutC 139 109 := fun w gb gx A c out b0 hb0 hb ho hol r xs hxs X cx N cn hbx hne lo hi hx hn hxb hhi h hsz => putm w gb gx A c out hb0 hb ho hol r xs hxs X cx N cn hbx hne lo hi hx hn hxb hhi h.1 h.2.1 h.2.2.1 hsz
theorem pC_n : PutC 141 110 := fun w gb gx A c out b0 hb0 hb ho hol r xs hxs X cx N cn hbx hne lo hi hx hn hxb hhi h hsz => putn w gb gx A c out hb0 hb ho hol r xs hxs X cx N cn hbx hne lo hi hx hn hxb hhi h.1 h.2.1 h.2.2.1 hsz
theorem pC_i : PutC 137 105 := fun w gb gx A c out b0 hb0 hb ho hol r xs hxs X cx N cn hbx hne lo hi hx hn hxb hhi h hsz => puti w gb gx A c out hb0 hb ho hol r xs hxs X cx N cn hbx hne lo hi hx hn hxb hhi h.1 h.2.1 h.2.2.1 hsz
theorem pl_letters {op : Int} {p : UInt8} (h : p ∈ pl op) : p = 118 ∨ p = 99 ∨ p = 111 ∨ p = 105 ∨ p = 109 ∨ p = 110 := by
 rcases pl_cases op with e | e | e | e | e <;> rw [e] at h <;> simp only [List.mem_cons, List.not_mem_nil, or_false] at h
 ·rcases h with rfl | rfl <;> simp
 ·rcases h with rfl | rfl <;> simp
 ·rcases h with rfl | rfl <;> simp
 ·subst h; simp
 ·subst h; simp
theorem getC_all {op : Int} {p : UInt8} (h : p ∈ pl op) : GetC (getF p) p ∧ callable Tryz.prog (getF p) = true := by
 rcases pl_letters h with rfl | rfl | rfl | rfl | rfl | rfl
 ·exact ⟨gC_v, by kernel_rfl⟩
 ·exact ⟨gC_c, by kernel_rfl⟩
 ·exact ⟨gC_o, by kernel_rfl⟩
 ·exact ⟨gC_i, by kernel_rfl⟩
 ·exact ⟨gC_m, by kernel_rfl⟩
 ·exact ⟨gC_n, by kernel_rfl⟩
theorem putC_all {op : Int} {p : UInt8} (h : p ∈ pl op) : PutC (putF p) p ∧ callable Tryz.prog (putF p) = true := by
 rcases pl_letters h with rfl | rfl | rfl | rfl | rfl | rfl
 ·exact ⟨pC_v, by kernel_rfl⟩
 ·exact ⟨pC_c, by kernel_rfl⟩
 ·exact ⟨pC_o, by kernel_rfl⟩
 ·exact ⟨pC_i, by kernel_rfl⟩
 ·exact ⟨pC_m, by kernel_rfl⟩
 ·exact ⟨pC_n, by kernel_rfl⟩
end Go.Proofs.YtiighkbehiddkaaGreat