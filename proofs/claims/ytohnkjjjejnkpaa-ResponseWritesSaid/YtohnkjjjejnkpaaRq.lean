/-
  Copies, turned.
-/
import Derived.Test.YtohnkjjjejnkpaaRn
import Derived.Test.YtohnkjjjejnkpaaRp
namespace Go.Proofs.Ytohnkjjjejnkpaa
open Go.RowKit
set_option linter.unusedVariables false
set_option maxRecDepth 4000
theorem sl32 : SliceTy Try.prog 32 5 1 1 (.int .u8 0) := sliceTy_mk Try.underlying32 (by kernel_rfl) rfl (by decide)
theorem sz5 : (Try.prog.info? 5).map (·.size) = some 1 := by kernel_rfl

/-- Only the blocks of a range, and new ones, have turned. -/
structure Rg (B hi : Nat) (a b : World) : Prop where
  os : b.os = a.os
  tape : b.tape = a.tape
  output : b.output = a.output
  size : a.heap.size ≤ b.heap.size
  block : ∀ k, k < a.heap.size → (k < B ∨ hi ≤ k) → b.heap[k]? = a.heap[k]?
theorem Rg.refl (B hi : Nat) (a : World) : Rg B hi a a := ⟨rfl, rfl, rfl, Nat.le_refl _, fun _ _ _ => rfl⟩
theorem Rg.gr {B hi : Nat} {a b c : World} {row : Option Nat} (h : Rg B hi a b) (k : Gr b c row) (hr : ∀ g, row = some g → (B ≤ g ∧ g < hi) ∨ a.heap.size ≤ g) : Rg B hi a c :=
  ⟨k.os.trans h.os, k.tape.trans h.tape, k.output.trans h.output, Nat.le_trans h.size k.size, fun i hi1 hn =>
    (k.block i (Nat.lt_of_lt_of_le hi1 h.size) (fun e => by rcases hr i e.symm with h1 | h1 <;> omega)).trans (h.block i hi1 hn)⟩
theorem Rg.te {B hi : Nat} {a b c : World} (h : Rg B hi a b) (k : Ext b c) : Rg B hi a c := h.gr k fun g e => by cases e
theorem Rg.rd {B hi lo2 hi2 size n c : Nat} {A : Option Addr} {xs : List Value} {a b : World} (h : Rg B hi a b) (hr : Rd a lo2 hi2 size A n c xs) (hs : hi2 ≤ B ∨ hi ≤ lo2) : Rd b lo2 hi2 size A n c xs :=
  hr.keep fun p h1 h2 h3 => World.cell?_of_block (h.block p.block h3 (by omega))
theorem Rg.bk {B hi g : Nat} {t : TypeId} {cs : List Value} {a b : World} (h : Rg B hi a b) (hb : Blk a g t cs) (hg : g < B ∨ hi ≤ g) : Blk b g t cs := (h.block g hb.lt hg).trans hb
theorem Rg.e0 {B hi : Nat} {w a b : World} (h : Rg B hi a b) (he : Ext w a) (hB : w.heap.size ≤ B) : Ext w b :=
  ⟨h.os.trans he.os, h.tape.trans he.tape, h.output.trans he.output, Nat.le_trans he.size h.size, fun i hi1 _ => (h.block i (Nat.lt_of_lt_of_le hi1 he.size) (.inl (by omega))).trans (he.block i hi1 (by simp))⟩
theorem OwnV.row {w w' : World} {lo lo2 g n c size : Nat} {e : TypeId} {ys : List IT} {cs : List Value} (h : OwnV w lo ys) (hg : Gr w w' (some g)) (ho : Own w lo2 e size (some ⟨g, 0, none⟩) n c cs) (he : e ≠ 5) : OwnV w' lo ys :=
  ⟨fun y hy => Own.gr (h.1 y hy) hg (own_own_ne (h.1 y hy) ho he), h.2⟩
theorem itc_at (z : IT) (v : List UInt8) (h : v.length = z.1.value.length) : itc ({ z.1 with value := v }, z.2) = itc z := by unfold itc; simp [h]
theorem set_at' {α : Type} {zs : List α} {i : Nat} {z : α} (h : zs[i]? = some z) (y : α) : zs.set i y = zs.take i ++ y :: zs.drop (i + 1) := List.set_eq_take_append_cons_drop .. |>.trans (if_pos (List.getElem?_eq_some_iff.1 h).1)
theorem split_at' {α : Type} {zs : List α} {i : Nat} {z : α} (h : zs[i]? = some z) : zs = zs.take i ++ z :: zs.drop (i + 1) := by
  have hi := (List.getElem?_eq_some_iff.1 h).1
  have e : zs[i] = z := (List.getElem?_eq_some_iff.1 h).2
  rw [← e, ← List.drop_eq_getElem_cons hi, List.take_append_drop]
theorem flat_same {zs : List IT} {i : Nat} {z y : IT} (h : zs[i]? = some z) (he : itc y = itc z) : (zs.set i y).flatMap itc = zs.flatMap itc := by
  rw [set_at' h, List.flatMap_append, List.flatMap_cons, he]
  conv => rhs; rw [split_at' h, List.flatMap_append, List.flatMap_cons]
theorem flat_ver {zs : List IT} {i : Nat} {z : IT} (h : zs[i]? = some z) (v : Nat) : (zs.flatMap itc).set (i * 4 + 2) (.int .u64 (v : Int)) = (zs.set i ({ z.1 with ver := v }, z.2)).flatMap itc := by
  have hi := (List.getElem?_eq_some_iff.1 h).1
  have hl : (zs.take i).length = i := List.length_take_of_le (by omega)
  rw [set_at' h, List.flatMap_append, List.flatMap_cons]
  conv => lhs; rw [split_at' h, List.flatMap_append, List.flatMap_cons]
  rw [List.set_append_right _ _ (by rw [itc_len, hl]; omega), itc_len, hl, show i * 4 + 2 - 4 * i = 2 by omega]
  rfl
theorem own_vals_set {w w' : World} {lo g i : Nat} {ys : List IT} {y : IT} {v : List UInt8} (h : OwnV w lo ys) (hy : ys[i]? = some y) (hg : Gr w w' (some g)) (hb : blk y.2.1 = some g) (ho : OwnB w' lo 5 y.2.1 y.2.2 v) : OwnV w' lo (ys.set i ({ y.1 with value := v }, y.2)) := by
  have hi := (List.getElem?_eq_some_iff.1 hy).1
  have hp := h.2
  refine ⟨?_, ?_⟩
  · intro z hz
    rw [set_at' hy] at hz
    rw [split_at' hy, List.pairwise_append, List.pairwise_cons] at hp
    obtain ⟨_, ⟨p2, _⟩, p3⟩ := hp
    rcases List.mem_append.1 hz with hz | hz
    · have hm : z ∈ ys := List.mem_of_mem_take hz
      refine Own.gr (h.1 z hm) hg (own_apart fun a ea b eb => ?_)
      cases eb
      have := p3 z hz y (List.mem_cons_self ..) a g ea hb
      omega
    · rcases List.mem_cons.1 hz with hz | hz
      · rw [hz]; exact ho
      · have hm : z ∈ ys := List.mem_of_mem_drop hz
        refine Own.gr (h.1 z hm) hg (own_apart fun a ea b eb => ?_)
        cases eb
        have := p2 z hz g a hb ea
        omega
  · rw [set_at' hy]
    rw [split_at' hy] at hp
    rw [List.pairwise_append, List.pairwise_cons] at hp ⊢
    obtain ⟨p1, ⟨p2, p4⟩, p3⟩ := hp
    exact ⟨p1, ⟨p2, p4⟩, fun a ha b hb2 => by
      rcases List.mem_cons.1 hb2 with e | e
      · rw [e]; exact p3 a ha y (List.mem_cons_self ..)
      · exact p3 a ha b (List.mem_cons_of_mem _ e)⟩
theorem own_vals_ver {w : World} {lo i v : Nat} {ys : List IT} {y : IT} (h : OwnV w lo ys) (hy : ys[i]? = some y) : OwnV w lo (ys.set i ({ y.1 with ver := v }, y.2)) := by
  have hp := h.2
  refine ⟨?_, ?_⟩
  · intro z hz
    rw [set_at' hy] at hz
    rcases List.mem_append.1 hz with hz | hz
    · exact h.1 z (List.mem_of_mem_take hz)
    · rcases List.mem_cons.1 hz with hz | hz
      · rw [hz]; exact h.1 y (List.mem_of_getElem? hy)
      · exact h.1 z (List.mem_of_mem_drop hz)
  · rw [set_at' hy]
    rw [split_at' hy] at hp
    rw [List.pairwise_append, List.pairwise_cons] at hp ⊢
    obtain ⟨p1, ⟨p2, p4⟩, p3⟩ := hp
    exact ⟨p1, ⟨p2, p4⟩, fun a ha b hb2 => by
      rcases List.mem_cons.1 hb2 with e | e
      · rw [e]; exact p3 a ha y (List.mem_cons_self ..)
      · exact p3 a ha b (List.mem_cons_of_mem _ e)⟩
/-- The values' rows lie below a bound; their lengths stay small. -/
def Low (hi : Nat) (zs : List IT) : Prop := ∀ z ∈ zs, (∀ g, blk z.2.1 = some g → g < hi) ∧ z.1.value.length ≤ 600
theorem Low.set {hi i : Nat} {zs : List IT} {y : IT} (h : Low hi zs) (hy : (∀ g, blk y.2.1 = some g → g < hi) ∧ y.1.value.length ≤ 600) : Low hi (zs.set i y) := fun z hz => by
  rcases List.mem_or_eq_of_mem_set hz with hz | hz
  · exact h z hz
  · rw [hz]; exact hy
theorem wu64s (n : Nat) : IntKind.u64.wrap ((n : Int) + 1) = ((n + 1) % 18446744073709551616 : Nat) := by rw [IntKind.wrap_u64]; omega
theorem nuc_set {ns : List Nat} {i : Nat} (v : Nat) : (ns.flatMap nuc).set i (.int .u64 (v : Int)) = (ns.set i v).flatMap nuc := by
  have e : ∀ l : List Nat, l.flatMap nuc = l.map fun (n : Nat) => Value.int .u64 ((n : Nat) : Int) := fun l => by
    induction l with
    | nil => rfl
    | cons a r ih => rw [List.flatMap_cons, ih]; rfl
  rw [e, e, List.map_set]
theorem nuc_len (ns : List Nat) : (ns.flatMap nuc).length = ns.length := by
  induction ns with
  | nil => rfl
  | cons a r ih => rw [List.flatMap_cons, List.length_append, ih]; show 1 + _ = _; rw [List.length_cons]; omega
theorem nuc_at {ns : List Nat} {i n : Nat} (h : ns[i]? = some n) : (ns.flatMap nuc)[i]? = some (.int .u64 (n : Int)) := by
  have := flat_get (f := nuc) (size := 1) (fun _ _ => rfl) (j := 0) (u := .int .u64 (n : Int)) h rfl
  rw [Nat.mul_one, Nat.add_zero] at this; exact this

theorem spoil8_any (w : World) (r : Rsp) (xs : List IT) (lo hi : Nat) (X : Option Addr) (cx : Nat) (N : Option Addr) (cn : Nat) (hc : CopyAt w lo r xs X cx N cn) (hbX : ∀ g, blk X = some g → g < hi) (hbN : ∀ g, blk N = some g → g < hi) (hlow : Low hi xs) (hhi : hi ≤ w.heap.size) (h40 : r.items.length ≤ 40) (h100 : r.nums.length ≤ 100) :
    Fn Try.prog 15 #[(.agg #[(.int .i64 r.op), (.int .i64 r.err), (.slice X r.items.length cx), (.int .u64 (↑r.ver : Int)), (.int .i64 r.count), (.slice N r.nums.length cn)])] w (fun v w' => v = .tuple #[] ∧ Rg lo hi w w')  := by
  have hR := Rg.refl lo hi w
  have hoX := hc.x
  have hoN := hc.n
  have hvs := hc.vs
  have hzl0 : xs.length = r.items.length := by rw [← hc.v]; exact (vals_len xs).symm
  refine fn_enter (args := [(.agg #[(.int .i64 r.op), (.int .i64 r.err), (.slice X r.items.length cx), (.int .u64 (↑r.ver : Int)), (.int .i64 r.count), (.slice N r.nums.length cn)])]) Try.func15 rfl rfl rfl ?_
  show WC _ _ _ _ [(0, (.agg #[(.int .i64 r.op), (.int .i64 r.err), (.slice X r.items.length cx), (.int .u64 (↑r.ver : Int)), (.int .i64 r.count), (.slice N r.nums.length cn)]))] _
  refine wc_seq (wc_regionL ?_)
  refine wl_step (or_box (cs := [(.int .i64 r.op), (.int .i64 r.err), (.slice X r.items.length cx), (.int .u64 (↑r.ver : Int)), (.int .i64 r.count), (.slice N r.nums.length cn)]) rfl rfl) rfl rfl rfl ?_
  rintro v w1 ⟨g1, rfl, hb_g1, he1, hl1, hu1⟩
  replace hR := Rg.te hR he1
  replace hoX := Own.ext hoX he1
  replace hoN := Own.ext hoN he1
  replace hvs := OwnV.ext hvs he1
  have hz_he1 := he1.size
  refine q_nil (k_then (wc_seq (wc_seq (wc_regionL ?_))))
  refine wl_val (ov_field0 (off := 2) fo28_2 rfl) rfl rfl rfl ?_
  refine wl_val (ov_loadAt oc24 rfl hb_g1 rfl) rfl rfl rfl ?_
  refine wl_val (ov_len Try.underlying24 rfl) rfl rfl rfl ?_
  refine vm rfl rfl ?_
  refine q_nil (k_then (wc_block ?_))
  refine wc_loop (σ := Nat × List IT) (fun s => r.items.length - s.1) (fun s => [(1, .pointer (some ⟨g1, 0, none⟩)), (7, .int .i64 (r.items.length : Int)), (8, .int .i64 (s.1 : Int))]) (fun s w' => s.1 ≤ r.items.length ∧ s.2.length = r.items.length ∧ Own w' lo 53 4 X r.items.length cx (s.2.flatMap itc) ∧ OwnV w' lo s.2 ∧ Low hi s.2 ∧ (∃ ns, ns.length = r.nums.length ∧ Own w' lo 25 1 N r.nums.length cn (ns.flatMap nuc)) ∧ Blk w' g1 28 (rspc r X cx N cn) ∧ Rg lo hi w w') ((0, xs)) (⟨Nat.zero_le _, hzl0, hoX, hvs, hlow, ⟨r.nums, rfl, hoN⟩, hb_g1, hR⟩) (⟨rfl, rfl, rfl, trivial⟩) ?_
  rintro ⟨i, zs⟩ wq ⟨hi0, hzl, hoX, hvs, hlow, ⟨ns, hnsl, hoN⟩, hb_g1, hR⟩
  show WC _ _ _ _ [(1, (.pointer (some ⟨g1, 0, none⟩))), (7, (.int .i64 (↑r.items.length : Int))), (8, (.int .i64 (↑i : Int)))] _
  simp only at hi0 hzl
  replace hoX : Own wq lo 53 4 X r.items.length cx (zs.flatMap itc) := hoX
  replace hvs : OwnV wq lo zs := hvs
  replace hlow : Low hi zs := hlow
  have hz_R := hR.size
  have hz1 := hb_g1.lt
  refine wc_seq (wc_regionL ?_)
  refine wl_val (ov_lss rfl rfl) rfl rfl rfl ?_
  refine q_nil (k_then (wc_seq ?_))
  refine wc_cond_d rfl (fun hc1 => ?_) (fun hc1 => ?_)
  · obtain ⟨⟨zi, zA, zc⟩, hz⟩ : ∃ s, zs[i]? = some s := ⟨_, List.getElem?_eq_getElem (by omega)⟩
    obtain ⟨gX, hgX, hgX1, hgX2⟩ := Own.addr hoX (by omega)
    have hgXh := hbX gX (by rw [hgX]; rfl)
    have hll := (hlow _ (List.mem_of_getElem? hz)).2
    refine q_skip (k_then (wc_seq (wc_block (wc_seq (wc_regionL ?_)))))
    refine vm rfl rfl ?_
    refine va rfl rfl ?_
    refine q_nil (k_then (wc_seq (wc_seq (wc_regionL ?_))))
    refine wl_val (ov_field0 (off := 2) fo28_2 rfl) rfl rfl rfl ?_
    refine wl_val (ov_loadAt oc24 rfl hb_g1 rfl) rfl rfl rfl ?_
    refine wl_spell (d := 12) rfl (v' := (.slice (some ⟨gX, 0, none⟩) r.items.length cx)) (by rw [hgX]) ?_
    refine vm rfl rfl ?_
    refine wl_val (ov_aindex (m := i) sl24 rfl rfl rfl (by omega)) rfl rfl rfl ?_
    refine wl_val (ov_field0 (off := 1) fo53_1 rfl) rfl rfl rfl ?_
    have hc16 := own_field (j := 1) (hgX ▸ hoX) hzl.symm hz rfl
    refine wl_val (ov_load oc32 rfl hc16) rfl rfl rfl ?_
    refine wl_val (ov_len Try.underlying32 rfl) rfl rfl rfl ?_
    refine vm rfl rfl ?_
    refine q_nil (k_then (wc_block ?_))
    obtain ⟨L0, hL0⟩ : ∃ n, n = zi.value.length := ⟨_, rfl⟩
    have hz0 : ∃ zi2, zs[i]? = some (zi2, zA, zc) ∧ zi2.value.length = L0 := ⟨zi, hz, hL0.symm⟩
    rw [← hL0]
    clear hz
    refine wc_loop (σ := Nat × List IT) (fun s => L0 - s.1) (fun s => [(1, .pointer (some ⟨g1, 0, none⟩)), (2, .int .i64 (i : Int)), (7, .int .i64 (r.items.length : Int)), (8, .int .i64 (i : Int)), (17, .int .i64 (L0 : Int)), (18, .int .i64 (s.1 : Int))]) (fun s w' => s.1 ≤ L0 ∧ (∃ zi2, s.2[i]? = some (zi2, zA, zc) ∧ zi2.value.length = L0) ∧ s.2.length = r.items.length ∧ Own w' lo 53 4 X r.items.length cx (s.2.flatMap itc) ∧ OwnV w' lo s.2 ∧ Low hi s.2 ∧ (∃ ns, ns.length = r.nums.length ∧ Own w' lo 25 1 N r.nums.length cn (ns.flatMap nuc)) ∧ Blk w' g1 28 (rspc r X cx N cn) ∧ Rg lo hi w w') ((0, zs)) (⟨Nat.zero_le _, hz0, hzl, hoX, hvs, hlow, ⟨ns, hnsl, hoN⟩, hb_g1, hR⟩) (⟨rfl, rfl, rfl, rfl, rfl, rfl, trivial⟩) ?_
    rintro ⟨k, zs⟩ wk ⟨hk0, ⟨zi, hz, hzil⟩, hzl, hoX, hvs, hlow, ⟨ns, hnsl, hoN⟩, hb_g1, hR⟩
    show WC _ _ _ _ [(1, (.pointer (some ⟨g1, 0, none⟩))), (2, (.int .i64 (↑i : Int))), (7, (.int .i64 (↑r.items.length : Int))), (8, (.int .i64 (↑i : Int))), (17, (.int .i64 (↑L0 : Int))), (18, (.int .i64 (↑k : Int)))] _
    simp only at hk0 hz hzl
    replace hoX : Own wk lo 53 4 X r.items.length cx (zs.flatMap itc) := hoX
    replace hvs : OwnV wk lo zs := hvs
    replace hlow : Low hi zs := hlow
    have hz_R2 := hR.size
    have hz2 := hb_g1.lt
    refine wc_seq (wc_regionL ?_)
    refine wl_val (ov_lss rfl rfl) rfl rfl rfl ?_
    refine q_nil (k_then (wc_seq ?_))
    refine wc_cond_d rfl (fun hc2 => ?_) (fun hc2 => ?_)
    · have hoB := hvs.1 _ (List.mem_of_getElem? hz)
      have hll2 : zi.value.length ≤ 600 := (hlow _ (List.mem_of_getElem? hz)).2
      obtain ⟨gz, hzA, hgz1, hgz2⟩ := Own.addr hoB (by show 0 < zi.value.length; omega)
      have hgzh := (hlow _ (List.mem_of_getElem? hz)).1 gz (by rw [hzA]; rfl)
      have hzA : zA = some ⟨gz, 0, none⟩ := hzA
      replace hoB : OwnB wk lo 5 (some ⟨gz, 0, none⟩) zc zi.value := by rw [← hzA]; exact hoB
      refine q_skip (k_then (wc_seq (wc_block (wc_seq (wc_regionL ?_)))))
      refine vm rfl rfl ?_
      refine va rfl rfl ?_
      refine q_nil (k_then (wc_regionL ?_))
      refine wl_val (ov_field0 (off := 2) fo28_2 rfl) rfl rfl rfl ?_
      refine wl_val (ov_loadAt oc24 rfl hb_g1 rfl) rfl rfl rfl ?_
      refine wl_spell (d := 22) rfl (v' := (.slice (some ⟨gX, 0, none⟩) r.items.length cx)) (by rw [hgX]) ?_
      refine vm rfl rfl ?_
      refine wl_val (ov_aindex (m := i) sl24 rfl rfl rfl (by omega)) rfl rfl rfl ?_
      refine wl_val (ov_field0 (off := 1) fo53_1 rfl) rfl rfl rfl ?_
      have hc26 := own_field (j := 1) (hgX ▸ hoX) hzl.symm hz rfl
      refine wl_val (ov_load oc32 rfl hc26) rfl rfl rfl ?_
      refine wl_spell (d := 26) rfl (v' := (.slice (some ⟨gz, 0, none⟩) zi.value.length zc)) (by show Value.slice zA _ _ = _; rw [hzA]) ?_
      refine vm rfl rfl ?_
      refine wl_val (ov_oindex sl32 rfl rfl rfl (m := k) (by omega)) rfl rfl rfl ?_
      have hc29 := OwnB.cellAt hoB (k := k) (by omega)
      refine wl_val (ov_load oc5 rfl hc29) rfl rfl rfl ?_
      refine wl_val (ov_add rfl rfl (wu8_succ _)) rfl rfl rfl ?_
      refine wl_spell (d := 30) rfl (v' := (.int .u8 (↑(zi.value.getD k 0 + 1).toNat : Int))) (rfl) ?_
      refine wl_val (ov_oindex sl32 rfl rfl rfl (m := k) (by omega)) rfl rfl rfl ?_
      refine wl_step0 (or_storeOwn sz5 rfl rfl hoB (by omega)) rfl rfl ?_
      rintro _ w2 ⟨hoS, hgS⟩
      have hzS := hgS.size
      replace hb_g1 := hb_g1.gr hgS (by intro e; cases e; omega)
      replace hR := Rg.gr hR hgS (fun _ e => by cases e; left; omega)
      replace hoX := Own.gr hoX hgS (own_own_ne hoX hoB (by decide))
      replace hoN := Own.gr hoN hgS (own_own_ne hoN hoB (by decide))
      have hvl : (zi.value.set k (zi.value.getD k 0 + 1)).length = zi.value.length := List.length_set
      rw [← hzA] at hoS
      have hoS2 : OwnB w2 lo 5 zA zc (zi.value.set k (zi.value.getD k 0 + 1)) := hoS
      replace hvs := own_vals_set hvs hz hgS (by show blk zA = _; rw [hzA]; rfl) hoS2
      refine q_nil (k_block (k_then (wc_regionL ?_)))
      refine wl_val (ov_add rfl rfl (wi64 (by omega) (by omega))) rfl rfl rfl ?_
      refine vm rfl rfl ?_
      refine q_nil ?_
      refine k_loop ((k + 1, (zs.set i ({ zi with value := zi.value.set k (zi.value.getD k 0 + 1) }, zA, zc)))) (by show L0 - (k + 1) < L0 - k; omega) (⟨rfl, rfl, rfl, rfl, rfl, rfl, trivial⟩) (⟨by show k + 1 ≤ _; omega, ⟨_, by show (List.set _ _ _)[i]? = _; exact List.getElem?_set_self (by omega), by show (List.set _ _ _).length = _; rw [List.length_set]; exact hzil⟩, by show (List.set _ _ _).length = _; rw [List.length_set]; exact hzl, by show Own _ _ _ _ _ _ _ (List.flatMap itc (List.set _ _ _)); rw [flat_same hz (itc_at (zi, zA, zc) _ hvl)]; exact hoX, hvs, Low.set hlow ⟨(hlow _ (List.mem_of_getElem? hz)).1, by show (List.set _ _ _).length ≤ _; rw [List.length_set]; omega⟩, ⟨ns, hnsl, hoN⟩, hb_g1, hR⟩)
    · refine q_exit (k_thenX (k_thenX (k_blockE (k_then (wc_regionL ?_)))))
      refine wl_val (ov_field0 (off := 2) fo28_2 rfl) rfl rfl rfl ?_
      refine wl_val (ov_loadAt oc24 rfl hb_g1 rfl) rfl rfl rfl ?_
      refine wl_spell (d := 34) rfl (v' := (.slice (some ⟨gX, 0, none⟩) r.items.length cx)) (by rw [hgX]) ?_
      refine vm rfl rfl ?_
      refine wl_val (ov_aindex (m := i) sl24 rfl rfl rfl (by omega)) rfl rfl rfl ?_
      refine wl_val (ov_field0 (off := 2) fo53_2 rfl) rfl rfl rfl ?_
      have hc38 := own_field (j := 2) (hgX ▸ hoX) hzl.symm hz rfl
      refine wl_val (ov_load oc25 rfl hc38) rfl rfl rfl ?_
      refine wl_val (ov_add rfl rfl (wu64s _)) rfl rfl rfl ?_
      refine wl_spell (d := 39) rfl (v' := (.int .u64 (↑((zi.ver + 1) % 18446744073709551616) : Int))) (rfl) ?_
      refine wl_val (ov_aindex (m := i) sl24 rfl rfl rfl (by omega)) rfl rfl rfl ?_
      refine wl_val (ov_field0 (off := 2) fo53_2 rfl) rfl rfl rfl ?_
      have hoXg : Own wk lo 53 4 (some ⟨gX, 0, none⟩) r.items.length cx (zs.flatMap itc) := by rw [← hgX]; exact hoX
      refine wl_step0 (or_storeOwnG sz25 rfl rfl rfl hoXg (by omega) (by rw [itc_len]; omega)) rfl rfl ?_
      rintro _ w202 ⟨hoS, hgS⟩
      have hzS := hgS.size
      replace hb_g1 := hb_g1.gr hgS (by intro e; cases e; omega)
      replace hR := Rg.gr hR hgS (fun _ e => by cases e; left; omega)
      replace hvs := own_vals_ver (v := (zi.ver + 1) % 18446744073709551616) (hvs.row hgS hoXg (by decide)) hz
      replace hoN := Own.gr hoN hgS (own_own_ne hoN hoXg (by decide))
      rw [flat_ver hz] at hoS
      rw [← hgX] at hoS
      refine q_nil (k_block (k_then (wc_regionL ?_)))
      refine wl_val (ov_add rfl rfl (wi64 (by omega) (by omega))) rfl rfl rfl ?_
      refine vm rfl rfl ?_
      refine q_nil ?_
      refine k_loop ((i + 1, (zs.set i ({ zi with ver := (zi.ver + 1) % 18446744073709551616 }, zA, zc)))) (by show r.items.length - (i + 1) < r.items.length - i; omega) (⟨rfl, rfl, rfl, trivial⟩) (⟨by show i + 1 ≤ _; omega, by show (List.set _ _ _).length = _; rw [List.length_set]; exact hzl, hoS, hvs, Low.set hlow (show (∀ g, blk zA = some g → g < hi) ∧ zi.value.length ≤ 600 from hlow _ (List.mem_of_getElem? hz)), ⟨ns, hnsl, hoN⟩, hb_g1, hR⟩)
  · refine q_exit (k_thenX (k_thenX (k_blockE (k_then (wc_seq (wc_regionL ?_))))))
    refine wl_val (ov_field0 (off := 5) fo28_5 rfl) rfl rfl rfl ?_
    refine wl_val (ov_loadAt oc26 rfl hb_g1 rfl) rfl rfl rfl ?_
    refine wl_val (ov_len Try.underlying26 rfl) rfl rfl rfl ?_
    refine vm rfl rfl ?_
    refine q_nil (k_then (wc_block ?_))
    refine wc_loop (σ := Nat × List Nat) (fun s => r.nums.length - s.1) (fun s => [(1, .pointer (some ⟨g1, 0, none⟩)), (45, .int .i64 (r.nums.length : Int)), (46, .int .i64 (s.1 : Int))]) (fun s w' => s.1 ≤ r.nums.length ∧ s.2.length = r.nums.length ∧ Own w' lo 25 1 N r.nums.length cn (s.2.flatMap nuc) ∧ Blk w' g1 28 (rspc r X cx N cn) ∧ Rg lo hi w w') ((0, ns)) (⟨Nat.zero_le _, hnsl, hoN, hb_g1, hR⟩) (⟨rfl, rfl, rfl, trivial⟩) ?_
    rintro ⟨i, ns⟩ wn ⟨hi0, hnsl, hoN, hb_g1, hR⟩
    show WC _ _ _ _ [(1, (.pointer (some ⟨g1, 0, none⟩))), (45, (.int .i64 (↑r.nums.length : Int))), (46, (.int .i64 (↑i : Int)))] _
    simp only at hi0 hnsl
    replace hoN : Own wn lo 25 1 N r.nums.length cn (ns.flatMap nuc) := hoN
    have hz_R3 := hR.size
    have hz3 := hb_g1.lt
    refine wc_seq (wc_regionL ?_)
    refine wl_val (ov_lss rfl rfl) rfl rfl rfl ?_
    refine q_nil (k_then (wc_seq ?_))
    refine wc_cond_d rfl (fun hc3 => ?_) (fun hc3 => ?_)
    · obtain ⟨n, hnk⟩ : ∃ n, ns[i]? = some n := ⟨_, List.getElem?_eq_getElem (by omega)⟩
      obtain ⟨gN, hgN, hgN1, hgN2⟩ := Own.addr hoN (by omega)
      have hgNh := hbN gN (by rw [hgN]; rfl)
      refine q_skip (k_then (wc_seq (wc_block (wc_seq (wc_regionL ?_)))))
      refine vm rfl rfl ?_
      refine va rfl rfl ?_
      refine q_nil (k_then (wc_regionL ?_))
      refine wl_val (ov_field0 (off := 5) fo28_5 rfl) rfl rfl rfl ?_
      refine wl_val (ov_loadAt oc26 rfl hb_g1 rfl) rfl rfl rfl ?_
      refine wl_spell (d := 50) rfl (v' := (.slice (some ⟨gN, 0, none⟩) r.nums.length cn)) (by rw [hgN]) ?_
      refine vm rfl rfl ?_
      refine wl_val (ov_oindex sl26 rfl rfl rfl (m := i) (by omega)) rfl rfl rfl ?_
      have hc53 : World.cell? wn ⟨gN, i, none⟩ = some (.int .u64 (n : Int)) := by rw [World.ownsRow.cellAt (hgN ▸ hoN) i (by omega)]; exact nuc_at hnk
      refine wl_val (ov_load oc25 rfl hc53) rfl rfl rfl ?_
      refine wl_val (ov_add rfl rfl (wu64s _)) rfl rfl rfl ?_
      refine wl_spell (d := 54) rfl (v' := (.int .u64 (↑((n + 1) % 18446744073709551616) : Int))) (rfl) ?_
      refine wl_val (ov_oindex sl26 rfl rfl rfl (m := i) (by omega)) rfl rfl rfl ?_
      refine wl_step0 (or_storeOwnG sz25 rfl rfl rfl (hgN ▸ hoN) (by omega) (by rw [nuc_len]; omega)) rfl rfl ?_
      rintro _ w202 ⟨hoS, hgS⟩
      have hzS := hgS.size
      replace hb_g1 := hb_g1.gr hgS (by intro e; cases e; omega)
      replace hR := Rg.gr hR hgS (fun _ e => by cases e; left; omega)
      rw [nuc_set] at hoS
      rw [← hgN] at hoS
      refine q_nil (k_block (k_then (wc_regionL ?_)))
      refine wl_val (ov_add rfl rfl (wi64 (by omega) (by omega))) rfl rfl rfl ?_
      refine vm rfl rfl ?_
      refine q_nil ?_
      refine k_loop ((i + 1, ns.set i ((n + 1) % 18446744073709551616))) (by show r.nums.length - (i + 1) < r.nums.length - i; omega) (⟨rfl, rfl, rfl, trivial⟩) (⟨by show i + 1 ≤ _; omega, by show (List.set _ _ _).length = _; rw [List.length_set]; exact hnsl, hoS, hb_g1, hR⟩)
    · refine q_exit (k_thenX (k_thenX (k_blockE ?_)))
      refine e_end0 rfl ?_
      exact ⟨rfl, hR⟩

end Go.Proofs.Ytohnkjjjejnkpaa
