/-
 A connection as the laws see it.
-/
import Derived.Test.YtiighkbehiddkaaGreatCd
import Derived.Test.YtiighkbehiddkaaGreatRp
namespace Go.Proofs.YtiighkbehiddkaaGreat
open Go.RowKit
set_option linter.unusedVariables false
set_option maxRecDepth 4000
theorem cl16 : callable Tryz.prog 16 = true := by kernel_rfl
theorem cl17 : callable Tryz.prog 17 = true := by kernel_rfl
theorem cl18 : callable Tryz.prog 18 = true := by kernel_rfl
theorem cl22 : callable Tryz.prog 22 = true := by kernel_rfl
theorem cl58 : callable Tryz.prog 58 = true := by kernel_rfl
theorem cl59 : callable Tryz.prog 59 = true := by kernel_rfl
section
variable {w w' : World} {g : Nat} {S S2 : List Nat} {a b : Nat} {s : Cn}
theorem Cnn.ext (h : Cnn w g S a b s) (e : Ext w w') : Cnn w' g S a b s := by
 obtain ⟨p, rfl, hb, hR⟩ := h
 exact ⟨p, rfl, hb.ext e, hR.ext e⟩
theorem Cnn.kp (h : Cnn w g S a b s) (k : Kp S2 w w') (hd : ∀ x ∈ S2, x ∉ S ∧ (x < a ∨ b ≤ x)) : Cnn w' g S a b s := by
 obtain ⟨p, rfl, hb, hR⟩ := h
 refine ⟨p, rfl, k.bk hb (fun e => (hd g e).1 (mem_cng _ _)), hR.kp k fun x hx => ⟨?_, ?_, ?_, ?_, (hd x hx).2⟩⟩
 ·rintro rfl; exact (hd _ hx).1 (mem_gb _ _)
 ·rintro rfl; exact (hd _ hx).1 (mem_gd _ _)
 ·intro e; exact (hd _ hx).1 (mem_Db e)
 ·intro e; exact (hd _ hx).1 (mem_Dd e)
theorem Cnn.bnd (h : Cnn w g S a b s) : (∀ x ∈ S, x < w.heap.size ∧ (x < a ∨ b ≤ x)) ∧ b ≤ w.heap.size := by
 obtain ⟨p, rfl, hb, hR⟩ := h
 exact ⟨hR.sep, hR.hb⟩
theorem Cnn.ok (h : Cnn w g S a b s) : CnOk s := by
 obtain ⟨p, rfl, hb, hR⟩ := h
 exact hR.ok
theorem Cnn.cap (h : Cnn w g S a b s) : s.out.length ≤ s.co ∧ s.co ≤ 1048576 := by
 obtain ⟨p, rfl, hb, hR⟩ := h
 have := hR.buf.cap
 omega
theorem Cnn.grf {g3 B : Nat} (h : Cnn w g S a b s) (k : Gr w w' (some g3)) (hB : (∀ x ∈ S, x < B) ∧ b ≤ B) (h3 : B ≤ g3) : Cnn w' g S a b s := h.kp (Kp.of_gr k) fun x hx => by
 have e : x = g3 := by simpa using hx
 subst e
 have := hB.2
 exact ⟨fun q => by have := hB.1 _ q; omega, by omega⟩
end
theorem lcdel (w : World) (g : Nat) (S : List Nat) (a b : Nat) (s : Cn) (hc : Cnn w g S a b s) (lo2 hi2 : Nat) (B : Option Addr) (c2 : Nat) (q : List UInt8) (hr2 : RdB w lo2 hi2 B c2 q) (hq2 : ∀ x ∈ S, x < lo2 ∨ hi2 ≤ x) (hlq : q.length ≤ 1099511627776) : Fn Tryz.prog 16 #[.pointer (some ⟨g, 0, none⟩), .slice B q.length c2] w (fun v w' => v = .tuple #[.int .i64 ((cnDel s q).2.1 : Int), .int .i64 ((cnDel s q).2.2 : Int)] ∧ CnTo w w' g S a b (cnDel s q).1) := by
 obtain ⟨p, rfl, hb, hR⟩ := hc
 obtain ⟨gb, gd, Db, Dd, K, ck, V, cv, T, ct, X, cx, xs, N, cn, A, c⟩ := p
 exact cdel_ok w g a b s gb gd Db Dd K ck V cv T ct X cx xs N cn A c hb hR lo2 hi2 B c2 q hr2 hq2 hlq
theorem lcstep (w : World) (g : Nat) (S : List Nat) (a b : Nat) (s : Cn) (hc : Cnn w g S a b s) (hpt : s.pt ≤ 4611686018427387904) : Fn Tryz.prog 17 #[.pointer (some ⟨g, 0, none⟩)] w (fun v w' => v = .tuple #[.int .i64 ((cnStep s).2 : Int), .int .i64 0] ∧ CnTo w w' g S a b (cnStep s).1) := by
 obtain ⟨p, rfl, hb, hR⟩ := hc
 obtain ⟨gb, gd, Db, Dd, K, ck, V, cv, T, ct, X, cx, xs, N, cn, A, c⟩ := p
 exact cstep_ok w g a b s gb gd Db Dd K ck V cv T ct X cx xs N cn A c hb hR hpt
theorem lcdrain (w : World) (g : Nat) (S : List Nat) (a b : Nat) (s : Cn) (hc : Cnn w g S a b s) (n : Int) (hn1 : -9223372036854775808 ≤ n) (hn2 : n ≤ 9223372036854775807) (ht : s.tk ≤ 4611686018427387904) : Fn Tryz.prog 20 #[.pointer (some ⟨g, 0, none⟩), .int .i64 n] w (fun v w' => ∃ B c2, v = .tuple #[.slice B (bpeek s.out n).1.length c2, .int .i64 ((bpeek s.out n).2 : Int)] ∧ OwnB w' w.heap.size 5 B c2 (bpeek s.out n).1 ∧ CnTo w w' g S a b (cnDr s n).1) := by
 obtain ⟨p, rfl, hb, hR⟩ := hc
 obtain ⟨gb, gd, Db, Dd, K, ck, V, cv, T, ct, X, cx, xs, N, cn, A, c⟩ := p
 exact cdrain_ok w g a b s gb gd Db Dd K ck V cv T ct X cx xs N cn A c hb hR n hn1 hn2 ht
theorem lcphase (w : World) (g : Nat) (S : List Nat) (a b : Nat) (s : Cn) (hc : Cnn w g S a b s) : Fn Tryz.prog 25 #[.pointer (some ⟨g, 0, none⟩)] w (fun v w' => v = .int .i64 (s.ph : Int) ∧ Ext w w') := by
 obtain ⟨p, rfl, hb, hR⟩ := hc
 obtain ⟨gb, gd, Db, Dd, K, ck, V, cv, T, ct, X, cx, xs, N, cn, A, c⟩ := p
 exact cphase_ok w g a b s gb gd Db Dd K ck V cv T ct X cx xs N cn A c hb hR
theorem lcsizes (w : World) (g : Nat) (S : List Nat) (a b : Nat) (s : Cn) (hc : Cnn w g S a b s) : Fn Tryz.prog 21 #[.pointer (some ⟨g, 0, none⟩)] w (fun v w' => v = .tuple #[.int .i64 (dheld s.cl s.held : Int), .int .i64 (s.out.length : Int)] ∧ Ext w w') := by
 obtain ⟨p, rfl, hb, hR⟩ := hc
 obtain ⟨gb, gd, Db, Dd, K, ck, V, cv, T, ct, X, cx, xs, N, cn, A, c⟩ := p
 exact csizes_ok w g a b s gb gd Db Dd K ck V cv T ct X cx xs N cn A c hb hR
theorem lccmd (w : World) (g : Nat) (S : List Nat) (a b : Nat) (s : Cn) (hc : Cnn w g S a b s) : Fn Tryz.prog 18 #[.pointer (some ⟨g, 0, none⟩)] w (fun v w' => ∃ K' ck' V' cv' T' ct', v = .tuple #[.agg (cmdc (cnCmd s) K' ck' V' cv' T' ct').toArray, .int .i64 (cnIn s 2 : Int)] ∧ RdS w' w.heap.size w'.heap.size K' ck' (cnCmd s).keys ∧ RdB w' w.heap.size w'.heap.size V' cv' (cnCmd s).value ∧ RdS w' w.heap.size w'.heap.size T' ct' (cnCmd s).tags ∧ Ext w w') := by
 obtain ⟨p, rfl, hb, hR⟩ := hc
 obtain ⟨gb, gd, Db, Dd, K, ck, V, cv, T, ct, X, cx, xs, N, cn, A, c⟩ := p
 exact ccmd_ok w g a b s gb gd Db Dd K ck V cv T ct X cx xs N cn A c hb hR
theorem lcrsp (w : World) (g : Nat) (S : List Nat) (a b : Nat) (s : Cn) (hc : Cnn w g S a b s) : Fn Tryz.prog 19 #[.pointer (some ⟨g, 0, none⟩)] w (fun v w' => ∃ X' cx' N' cn' xs', v = .tuple #[.agg (rspc (cnRsp s) X' cx' N' cn').toArray, .int .i64 (cnIn s 3 : Int)] ∧ vals xs' = (cnRsp s).items ∧ RdI w' w.heap.size w'.heap.size X' cx' xs' ∧ RdN w' w.heap.size w'.heap.size N' cn' (cnRsp s).nums ∧ Ext w w') := by
 obtain ⟨p, rfl, hb, hR⟩ := hc
 obtain ⟨gb, gd, Db, Dd, K, ck, V, cv, T, ct, X, cx, xs, N, cn, A, c⟩ := p
 exact crsp_ok w g a b s gb gd Db Dd K ck V cv T ct X cx xs N cn A c hb hR
theorem lcans (w : World) (g : Nat) (S : List Nat) (a b : Nat) (s : Cn) (hc : Cnn w g S a b s) (r : Rsp) (xs9 : List IT) (hv9 : vals xs9 = r.items) (lo9 hi9 : Nat) (X9 : Option Addr) (cx9 : Nat) (N9 : Option Addr) (cn9 : Nat) (hx9 : RdI w lo9 hi9 X9 cx9 xs9) (hn9 : RdN w lo9 hi9 N9 cn9 r.nums) (hrk : RspOk r) (hrz : rsz r ≤ 4398046511104) : Fn Tryz.prog 24 #[.pointer (some ⟨g, 0, none⟩), .agg (rspc r X9 cx9 N9 cn9).toArray] w (fun v w' => v = .int .i64 ((cnAns s r).2 : Int) ∧ CnTo w w' g S a b (cnAns s r).1) := by
 obtain ⟨p, rfl, hb, hR⟩ := hc
 obtain ⟨gb, gd, Db, Dd, K, ck, V, cv, T, ct, X, cx, xs, N, cn, A, c⟩ := p
 by_cases h : (wrR r).2 = 0
 ·exact cansg_ok w g a b s gb gd Db Dd K ck V cv T ct X cx xs N cn A c hb hR r xs9 hv9 lo9 hi9 X9 cx9 N9 cn9 hx9 hn9 hrk hrz h
 ·exact cansb_ok w g a b s gb gd Db Dd K ck V cv T ct X cx xs N cn A c hb hR r xs9 hv9 lo9 hi9 X9 cx9 N9 cn9 hx9 hn9 hrk hrz h
/-- The bytes of the frame of a response, by the reference. -/
def refB (r : Rsp) : List UInt8 := (fwrite (codeR r) (refW r)).1
theorem refW_len (r : Rsp) : (refW r).length ≤ rsz r + 40 := by
 have h1 := enc_len r.err.toNat
 have h2 := hdR_len r
 have h3 := items_len' r.items
 have h4 := encs_len r.nums
 unfold refW rsz
 rw [List.length_append]
 split
 ·rw [List.length_append, List.length_append]; omega
 ·rw [List.length_nil]; omega
theorem bytes28_any (w : World) (r : Rsp) (xs : List IT) (hv : vals xs = r.items) (lo hi : Nat) (X : Option Addr) (cx : Nat) (N : Option Addr) (cn : Nat) (hx : RdI w lo hi X cx xs) (hn : RdN w lo hi N cn r.nums) (hok : RspOk r) (hsz : rsz r ≤ 4398046511104) (h1 : 0 ≤ r.op) (h2 : r.op ≤ 15) (h3 : 0 ≤ r.err) (h3b : r.err ≤ 9223372036854775807) (h4 : 0 ≤ r.count) (h5 : ∀ x ∈ r.items, 0 ≤ x.mark ∧ x.mark ≤ 9223372036854775807) :
  Fn Tryz.prog 28 #[(.agg #[(.int .i64 r.op), (.int .i64 r.err), (.slice X r.items.length cx), (.int .u64 (↑r.ver : Int)), (.int .i64 r.count), (.slice N r.nums.length cn)])] w (fun v w' => ∃ A c, v = .slice A (refB r).length c ∧ OwnB w' w.heap.size 5 A c (refB r) ∧ Ext w w')  := by
 replace hx := hx.top
 replace hn := Rd.top hn
 have hE := ext_refl w
 have hwl := refW_len r
 refine fn_enter (args := [(.agg #[(.int .i64 r.op), (.int .i64 r.err), (.slice X r.items.length cx), (.int .u64 (↑r.ver : Int)), (.int .i64 r.count), (.slice N r.nums.length cn)])]) Tryz.func28 rfl rfl rfl ?_
 show WC _ _ _ _ [(0, (.agg #[(.int .i64 r.op), (.int .i64 r.err), (.slice X r.items.length cx), (.int .u64 (↑r.ver : Int)), (.int .i64 r.count), (.slice N r.nums.length cn)]))] _
 refine wc_seq (wc_regionL ?_)
 refine wl_step (or_box (cs := [(.int .i64 r.op), (.int .i64 r.err), (.slice X r.items.length cx), (.int .u64 (↑r.ver : Int)), (.int .i64 r.count), (.slice N r.nums.length cn)]) rfl rfl) rfl rfl rfl ?_
 rintro v w1 ⟨g1, rfl, hb_g1, he1, hl1, hu1⟩
 replace hx := RdI.ext hx he1
 replace hn := hn.ext he1
 replace hE := hE.tr he1
 have hz_he1 := he1.size
 refine va rfl rfl ?_
 refine q_nil (k_then (wc_seq (wc_regionL ?_)))
 refine wl_val (ov_loadBlk (cs := [(.int .i64 r.op), (.int .i64 r.err), (.slice X r.items.length cx), (.int .u64 (↑r.ver : Int)), (.int .i64 r.count), (.slice N r.nums.length cn)]) ag43_6 rfl hb_g1) rfl rfl rfl ?_
 refine wl_step (or_call0 cl59 rfl rfl (rw8_any _ r xs hv _ _ X cx N cn hx hn hok hsz h1 h2 h3 h3b h4 h5)) rfl rfl rfl ?_
 rintro v w2 ⟨A7, c7, rfl, ho7, he7⟩
 replace hE := hE.tr he7
 have hz_he7 := he7.size
 refine wl_step (or_call0 cl58 rfl rfl (rfwrite_any _ _ _ ((codeR r)) _ _ (refW r) (OwnB.rd ho7) (by omega))) rfl rfl rfl ?_
 rintro v w3 ⟨A8, c8, rfl, ho8, he8⟩
 replace hE := hE.tr he8
 have hz_he8 := he8.size
 refine vm rfl rfl ?_
 iterate 2 refine vx rfl rfl rfl ?_
 iterate 2 refine va rfl rfl ?_
 refine q_nil (k_then (wc_seq (wc_regionL ?_)))
 refine vm rfl rfl ?_
 refine va rfl rfl ?_
 refine q_nil (k_then (q_ret ?_))
 refine e_ret rfl rfl ?_
 exact ⟨A8, c8, rfl, Own.mono ho8 (by omega), hE⟩
theorem lw28_del (w : World) (g : Nat) (S : List Nat) (a b : Nat) (s : Cn) (hc : Cnn w g S a b s) (want : Int) (lo2 hi2 : Nat) (B : Option Addr) (c2 : Nat) (q : List UInt8) (hr2 : RdB w lo2 hi2 B c2 q) (hq2 : ∀ x ∈ S, x < lo2 ∨ hi2 ≤ x) (hlq : q.length ≤ 1099511627776) (hw : ((cnDel s q).2.1 : Int) = want ∧ (cnDel s q).2.2 = 0) :
  Fn Tryz.prog 29 #[(.pointer (some ⟨g, 0, none⟩)), (.int .i64 want), (.slice B q.length c2)] w (fun v w' => v = .bool true ∧ CnTo w w' g S a b (cnDel s q).1)  := by
 refine fn_enter (args := [(.pointer (some ⟨g, 0, none⟩)), (.int .i64 want), (.slice B q.length c2)]) Tryz.func29 rfl rfl rfl ?_
 show WC _ _ _ _ [(0, (.pointer (some ⟨g, 0, none⟩))), (1, (.int .i64 want)), (2, (.slice B q.length c2))] _
 refine wc_seq (wc_regionL ?_)
 refine va rfl rfl ?_
 refine q_nil (k_then (wc_seq (wc_regionL ?_)))
 iterate 2 refine vm rfl rfl ?_
 refine wl_step (or_call0 cl16 rfl rfl (lcdel _ g S a b s hc lo2 hi2 B c2 q hr2 hq2 hlq)) rfl rfl rfl ?_
 rintro v w1 ⟨rfl, hto⟩
 refine vm rfl rfl ?_
 iterate 2 refine vx rfl rfl rfl ?_
 iterate 2 refine va rfl rfl ?_
 refine q_nil (k_then (wc_seq (wc_regionL ?_)))
 iterate 2 refine vm rfl rfl ?_
 refine ve rfl rfl rfl ?_
 refine wl_spell (d := 17) rfl (bt (hw.1)) ?_
 refine vm rfl rfl ?_
 refine wl_gval (ov_move rfl) rfl rfl rfl rfl rfl ?_
 refine wl_gval (ov_eql rfl rfl) rfl rfl rfl rfl rfl ?_
 refine wl_spell (d := 20) rfl (bt (by rw [hw.2]; rfl)) ?_
 refine wl_val (ov_pick_t rfl rfl) rfl rfl rfl ?_
 refine va rfl rfl ?_
 refine q_nil (k_then (q_ret ?_))
 refine e_ret rfl rfl ?_
 exact ⟨rfl, hto⟩
theorem lw28_steps (w : World) (g : Nat) (S : List Nat) (a b : Nat) (s : Cn) (hc : Cnn w g S a b s) (want : Int) (hpt : s.pt ≤ 4611686018427387904) (hw : ((cnStep s).2 : Int) = want) :
  Fn Tryz.prog 30 #[(.pointer (some ⟨g, 0, none⟩)), (.int .i64 want)] w (fun v w' => v = .bool true ∧ CnTo w w' g S a b (cnStep s).1)  := by
 refine fn_enter (args := [(.pointer (some ⟨g, 0, none⟩)), (.int .i64 want)]) Tryz.func30 rfl rfl rfl ?_
 show WC _ _ _ _ [(0, (.pointer (some ⟨g, 0, none⟩))), (1, (.int .i64 want))] _
 refine wc_seq (wc_regionL ?_)
 refine va rfl rfl ?_
 refine q_nil (k_then (wc_seq (wc_regionL ?_)))
 refine vm rfl rfl ?_
 refine wl_step (or_call0 cl17 rfl rfl (lcstep _ g S a b s hc hpt)) rfl rfl rfl ?_
 rintro v w1 ⟨rfl, hto⟩
 refine vm rfl rfl ?_
 iterate 2 refine vx rfl rfl rfl ?_
 iterate 2 refine va rfl rfl ?_
 refine q_nil (k_then (wc_seq (wc_regionL ?_)))
 iterate 2 refine vm rfl rfl ?_
 refine ve rfl rfl rfl ?_
 refine wl_spell (d := 14) rfl (bt (hw)) ?_
 refine vm rfl rfl ?_
 refine wl_gval (ov_move rfl) rfl rfl rfl rfl rfl ?_
 refine wl_gval (ov_eql rfl rfl) rfl rfl rfl rfl rfl ?_
 refine wl_val (ov_pick_t rfl rfl) rfl rfl rfl ?_
 refine va rfl rfl ?_
 refine q_nil (k_then (q_ret ?_))
 refine e_ret rfl rfl ?_
 exact ⟨rfl, hto⟩
theorem lw28_cmds (w : World) (g : Nat) (S : List Nat) (a b : Nat) (s : Cn) (hc : Cnn w g S a b s) (x : Cmd) (lo2 hi2 : Nat) (K2 : Option Addr) (ck2 : Nat) (V2 : Option Addr) (cv2 : Nat) (T2 : Option Addr) (ct2 : Nat) (hK2 : RdS w lo2 hi2 K2 ck2 x.keys) (hV2 : RdB w lo2 hi2 V2 cv2 x.value) (hT2 : RdS w lo2 hi2 T2 ct2 x.tags) (hw : cnCmd s = x ∧ cnIn s 2 = 0) :
  Fn Tryz.prog 32 #[(.pointer (some ⟨g, 0, none⟩)), (.agg #[(.int .i64 x.op), (.string (strB x.key)), (.slice K2 x.keys.length ck2), (.slice V2 x.value.length cv2), (.slice T2 x.tags.length ct2), (.int .u64 (↑x.life : Int)), (.int .u64 (↑x.ver : Int)), (.string (strB x.tag)), (.string (strB x.pre)), (.string (strB x.child))])] w (fun v w' => v = .bool true ∧ Ext w w')  := by
 have hE := ext_refl w
 replace hK2 := hK2.top
 replace hV2 := hV2.top
 replace hT2 := hT2.top
 have hB_hc : (∀ x ∈ S, x < w.heap.size) ∧ b ≤ w.heap.size := ⟨fun x hx => (hc.bnd.1 x hx).1, hc.bnd.2⟩
 refine fn_enter (args := [(.pointer (some ⟨g, 0, none⟩)), (.agg #[(.int .i64 x.op), (.string (strB x.key)), (.slice K2 x.keys.length ck2), (.slice V2 x.value.length cv2), (.slice T2 x.tags.length ct2), (.int .u64 (↑x.life : Int)), (.int .u64 (↑x.ver : Int)), (.string (strB x.tag)), (.string (strB x.pre)), (.string (strB x.child))])]) Tryz.func32 rfl rfl rfl ?_
 show WC _ _ _ _ [(0, (.pointer (some ⟨g, 0, none⟩))), (1, (.agg #[(.int .i64 x.op), (.string (strB x.key)), (.slice K2 x.keys.length ck2), (.slice V2 x.value.length cv2), (.slice T2 x.tags.length ct2), (.int .u64 (↑x.life : Int)), (.int .u64 (↑x.ver : Int)), (.string (strB x.tag)), (.string (strB x.pre)), (.string (strB x.child))]))] _
 refine wc_seq (wc_regionL ?_)
 refine wl_step (or_box (cs := [(.int .i64 x.op), (.string (strB x.key)), (.slice K2 x.keys.length ck2), (.slice V2 x.value.length cv2), (.slice T2 x.tags.length ct2), (.int .u64 (↑x.life : Int)), (.int .u64 (↑x.ver : Int)), (.string (strB x.tag)), (.string (strB x.pre)), (.string (strB x.child))]) rfl rfl) rfl rfl rfl ?_
 rintro v w1 ⟨g3, rfl, hb_g3, he3, hl3, hu3⟩
 replace hK2 := hK2.ext he3
 replace hV2 := hV2.ext he3
 replace hT2 := hT2.ext he3
 replace hc := hc.ext he3
 replace hE := hE.tr he3
 have hz_he3 := he3.size
 refine va rfl rfl ?_
 refine q_nil (k_then (wc_seq (wc_regionL ?_)))
 refine vm rfl rfl ?_
 refine wl_step (or_call0 cl18 rfl rfl (lccmd _ g S a b s hc)) rfl rfl rfl ?_
 rintro v w2 ⟨K9, ck9, V9, cv9, T9, ct9, rfl, hK9, hV9, hT9, he9⟩
 replace hK2 := hK2.ext he9
 replace hV2 := hV2.ext he9
 replace hT2 := hT2.ext he9
 replace hE := hE.tr he9
 replace hb_g3 := hb_g3.ext he9
 have hz_he9 := he9.size
 refine vm rfl rfl ?_
 iterate 2 refine vx rfl rfl rfl ?_
 refine wl_step (or_alloc (cs := [(.int .i64 0), (.string (strB [])), (.slice none 0 0), (.slice none 0 0), (.slice none 0 0), (.int .u64 0), (.int .u64 0), (.string (strB [])), (.string (strB [])), (.string (strB []))]) ze39 rfl) rfl rfl rfl ?_
 rintro v w3 ⟨g5, rfl, hb_g5, he5, hl5, hu5⟩
 replace hK2 := hK2.ext he5
 replace hV2 := hV2.ext he5
 replace hT2 := hT2.ext he5
 replace hE := hE.tr he5
 replace hb_g3 := hb_g3.ext he5
 replace hK9 := hK9.ext he5
 replace hV9 := hV9.ext he5
 replace hT9 := hT9.ext he5
 have hz_he5 := he5.size
 refine wl_step0 (or_storeBlk (vs := [(.int .i64 (cnCmd s).op), (.string (strB (cnCmd s).key)), (.slice K9 (cnCmd s).keys.length ck9), (.slice V9 (cnCmd s).value.length cv9), (.slice T9 (cnCmd s).tags.length ct9), (.int .u64 (↑(cnCmd s).life : Int)), (.int .u64 (↑(cnCmd s).ver : Int)), (.string (strB (cnCmd s).tag)), (.string (strB (cnCmd s).pre)), (.string (strB (cnCmd s).child))]) sz39 rfl rfl (by simp [Value.oneCell']) hb_g5 rfl) rfl rfl ?_
 rintro _ w4 ⟨hN4, hg4⟩
 have hz_hg4 := hg4.size
 replace hK2 := hK2.gr hg4 (fun _ e => by cases e; omega)
 replace hV2 := hV2.gr hg4 (fun _ e => by cases e; omega)
 replace hT2 := hT2.gr hg4 (fun _ e => by cases e; omega)
 replace hE := hE.gr hg4 (fun _ e => by cases e; omega)
 replace hb_g3 := hb_g3.gr hg4 (by intro e; cases e; omega)
 replace hK9 := hK9.gr hg4 (fun _ e => by cases e; omega)
 replace hV9 := hV9.gr hg4 (fun _ e => by cases e; omega)
 replace hT9 := hT9.gr hg4 (fun _ e => by cases e; omega)
 replace hb_g5 := hN4
 refine va rfl rfl ?_
 refine q_nil (k_then (wc_seq (wc_regionL ?_)))
 refine wl_val (ov_loadBlk (cs := [(.int .i64 (cnCmd s).op), (.string (strB (cnCmd s).key)), (.slice K9 (cnCmd s).keys.length ck9), (.slice V9 (cnCmd s).value.length cv9), (.slice T9 (cnCmd s).tags.length ct9), (.int .u64 (↑(cnCmd s).life : Int)), (.int .u64 (↑(cnCmd s).ver : Int)), (.string (strB (cnCmd s).tag)), (.string (strB (cnCmd s).pre)), (.string (strB (cnCmd s).child))]) ag39_10 rfl hb_g5) rfl rfl rfl ?_
 refine wl_val (ov_loadBlk (cs := [(.int .i64 x.op), (.string (strB x.key)), (.slice K2 x.keys.length ck2), (.slice V2 x.value.length cv2), (.slice T2 x.tags.length ct2), (.int .u64 (↑x.life : Int)), (.int .u64 (↑x.ver : Int)), (.string (strB x.tag)), (.string (strB x.pre)), (.string (strB x.child))]) ag39_10 rfl hb_g3) rfl rfl rfl ?_
 refine wl_step (or_call0 cl22 rfl rfl (requal_any _ (cnCmd s) _ _ K9 ck9 V9 cv9 T9 ct9 hK9 hV9 hT9 x _ _ K2 ck2 V2 cv2 T2 ct2 hK2 hV2 hT2)) rfl rfl rfl ?_
 rintro v w5 ⟨rfl, he14⟩
 replace hE := hE.tr he14
 have hz_he14 := he14.size
 refine wl_spell (d := 14) rfl (bt (hw.1)) ?_
 refine vm rfl rfl ?_
 refine wl_gval (ov_move rfl) rfl rfl rfl rfl rfl ?_
 refine wl_gval (ov_eql rfl rfl) rfl rfl rfl rfl rfl ?_
 refine wl_spell (d := 17) rfl (bt (by rw [hw.2]; rfl)) ?_
 refine wl_val (ov_pick_t rfl rfl) rfl rfl rfl ?_
 refine va rfl rfl ?_
 refine q_nil (k_then (q_ret ?_))
 refine e_ret rfl rfl ?_
 exact ⟨rfl, hE⟩
end Go.Proofs.YtiighkbehiddkaaGreat