/-
  Slices whose array's type is known: what a step over a block of another type leaves of them. Plain laws, over any program. No condition.
-/
import Derived.Test.YtohnkjjjejnkpaaReq
namespace Go.Proofs.Ytohnkjjjejnkpaa
open Go.RowKit
set_option linter.unusedVariables false

/-- The slice reads as the cells xs; its array is of type e. -/
def RdT (w : World) (e : TypeId) (A : Option Addr) (n c : Nat) (xs : List Value) : Prop :=
  n ≤ c ∧ c ≤ maxLen ∧ xs.length = n ∧ (xs ≠ [] → ∃ ad cur fz, A = some ad ∧ w.heap[ad.block]? = some (Obj.cells cur e fz) ∧ ∀ j u, xs[j]? = some u → w.cell? (ad.add j) = some u)
section
variable {w w' : World} {e : TypeId} {A : Option Addr} {n c : Nat} {xs : List Value}
theorem RdT.nil (w : World) (e : TypeId) : RdT w e none 0 0 [] := ⟨Nat.le_refl _, Nat.zero_le _, rfl, fun h => absurd rfl h⟩
theorem add_blk (ad : Addr) (j : Nat) : (ad.add j).block = ad.block := by unfold Addr.add; split <;> rfl
theorem RdT.keep (h : RdT w e A n c xs) (hk : ∀ (g : Nat) cur fz, w.heap[g]? = some (Obj.cells cur e fz) → w'.heap[g]? = w.heap[g]?) : RdT w' e A n c xs :=
  ⟨h.1, h.2.1, h.2.2.1, fun hn => by
    obtain ⟨ad, cur, fz, hA, hb, hc⟩ := h.2.2.2 hn
    have hs := hk _ _ _ hb
    refine ⟨ad, cur, fz, hA, hs.trans hb, fun j u hu => ?_⟩
    rw [← hc j u hu]
    exact World.cell?_of_block (by rw [add_blk]; exact hs)⟩
theorem RdT.rd (h : RdT w e A n c xs) : Rd w 0 w.heap.size 1 A n c xs :=
  ⟨h.1, h.2.1, by rw [h.2.2.1, Nat.mul_one], fun hn => by
    obtain ⟨ad, cur, fz, hA, hb, hc⟩ := h.2.2.2 hn
    exact ⟨ad, hA, Nat.zero_le _, (Array.getElem?_eq_some_iff.1 hb).1, hc⟩⟩
theorem RdT.ext (h : RdT w e A n c xs) (hg : Ext w w') : RdT w' e A n c xs := h.keep fun g cur fz hb => hg.block g (Array.getElem?_eq_some_iff.1 hb).1 (by simp)
theorem RdT.gr {g : Nat} {t : TypeId} {cs : List Value} (h : RdT w e A n c xs) (hg : Gr w w' (some g)) (hb : Blk w g t cs) (ht : e ≠ t) : RdT w' e A n c xs :=
  h.keep fun g' cur fz hc => hg.block g' (Array.getElem?_eq_some_iff.1 hc).1 (fun e2 => by
    cases e2
    have := hb.symm.trans hc
    simp only [Option.some.injEq, Obj.cells.injEq] at this
    exact ht this.2.1.symm)
theorem RdT.rt {B : Nat} {ts : List Nat} (h : RdT w e A n c xs) (k : RT B ts w w') (he : e ∉ ts) : RdT w' e A n c xs :=
  h.keep fun g cur fz hc => k.2.2.2.2 g (Array.getElem?_eq_some_iff.1 hc).1 (.inr fun e' cur' fz' he' hc' => by
    have := hc'.symm.trans hc
    simp only [Option.some.injEq, Obj.cells.injEq] at this
    exact he (this.2.1 ▸ he'))
theorem RT.bkB {B g : Nat} {ts : List Nat} {t : TypeId} {cs : List Value} (k : RT B ts w w') (h : Blk w g t cs) (hg : g < B) : Blk w' g t cs := (k.2.2.2.2 g h.lt (.inl hg)).trans h
theorem RdT.own {lo : Nat} (h : Own w lo e 1 A n c xs) : RdT w e A n c xs := by
  have hr := Own.rd h
  refine ⟨hr.1, hr.2.1, by have := hr.2.2.1; omega, fun hn => ?_⟩
  obtain ⟨ad, hA, _, _, hc⟩ := hr.2.2.2 hn
  rcases h.2 with ⟨hv, h0⟩ | ⟨g, cap, cur, hv, _, hh, _⟩
  · subst h0; have := hr.2.2.1; simp at this; exact absurd this hn
  · simp only [Value.slice.injEq] at hv
    obtain ⟨h1, _, _⟩ := hv
    subst h1; cases hA
    exact ⟨_, cur, (0, 0), rfl, hh, hc⟩
end
section
variable {P : Program} {L : Env} {w : World} {d : Option Nat} {ty : TypeId} {pos : String} {aft : Array Edge} {gd : Option (Nat × Bool)}
theorem or_strBytesT {s t e : TypeId} (T : ByteTy P t e) (hs : P.underlying s = some .string) {x : Operand} {l : List UInt8} (hx : ev L x = some (.string (strB l))) (hb : l.length ≤ maxLen) :
    OpRun P ⟨d, .convert s t x, ty, pos, aft, gd⟩ L w fun v w' => ∃ A c, v = .slice A l.length c ∧ RdT w' e A l.length c (l.map u8v) ∧ Ext w w' :=
  opRun_of fun ρ h1 _ => by
    have hr := Lib.run_convert_string_bytes (P := P) w s t e (strB l) hs T.s.u T.e
    have hsz : (strB l).size = l.length := by simp [ByteArray.size]
    refine ⟨.slice (some ⟨w.heap.size, 0, none⟩) l.length (grownCap w (strB l).size 0 e), Lib.bytesWorld w e (strB l), by simp only [execOp, h1 x _ hx, hr, Sem.run_bind, Result.andThen_ok, Sem.run_pure, hsz], some ⟨w.heap.size, 0, none⟩, _, rfl, ⟨?_, ?_, by simp, fun _ => ⟨_, _, _, rfl, Lib.bytesWorld_at_new w e (strB l), fun j u hu => ?_⟩⟩, ⟨?_, ?_, ?_, ?_, fun k hk _ => Lib.bytesWorld_at_old w e (strB l) k hk⟩⟩
    · have := grownCap_ge w (strB l).size 0 e; simpa [ByteArray.size] using this
    · exact grownCap_le_maxLen w (strB l).size 0 e (by simpa [ByteArray.size] using hb)
    · have hj : j < l.length := by
        rcases Nat.lt_or_ge j l.length with h | h
        · exact h
        · rw [List.getElem?_eq_none (by simpa using h)] at hu; cases hu
      rw [Addr.add_lit, Nat.zero_add, Lib.bytesWorld_cell w e (strB l) j (by simpa [ByteArray.size] using hj)]
      simp [hj] at hu
      subst hu
      simp [List.getD, hj]
    all_goals first | (rw [Lib.bytesWorld_size]; omega) | simp [Lib.bytesWorld, World.freeze, World.alloc, World.drew, -World.alloc_eq, -World.drew_eq]
end

end Go.Proofs.Ytohnkjjjejnkpaa
