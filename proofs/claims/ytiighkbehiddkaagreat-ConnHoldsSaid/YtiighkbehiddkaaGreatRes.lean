/-
 Leaving a function some of whose results lie in memory cells. Plain laws, over any program. No condition.
-/
import Derived.Test.YtiighkbehiddkaaGreatMake
namespace Go.Proofs.YtiighkbehiddkaaGreat
open Go.RowKit
/-- The values of result variables. -/
def ResIs (P : Program) (L : Env) (w : World) : List ResultVar → List Value → Prop
 | [], [] => True
 | .tmp t :: rs, v :: vs => L.get t = some v ∧ ResIs P L w rs vs
 | .cell a t :: rs, v :: vs => (∃ g tb cs, L.get a = some (.pointer (some ⟨g, 0, none⟩)) ∧ aggTy P t cs.length = true ∧ Blk w g tb cs ∧ v = .agg cs.toArray) ∧ ResIs P L w rs vs
 | _, _ => False
def resPack : List Value → Value
 | [v] => v
 | vs => .tuple vs.toArray
def resOne (tmps : Array Value) : ResultVar → Sem Value
 | .tmp t => pure (tmps.getD t undef)
 | .cell s t => do loadVar t (← asAddr (tmps.getD s undef))
theorem res_run {P : Program} {L : Env} {w : World} {a : Act} {n : Nd} (ha : Agree a n L) : ∀ {rs : List ResultVar} {vs : List Value}, ResIs P L w rs vs → (rs.mapM (resOne a.tmps)).run P w = .ok vs w
 | [], [], _ => rfl
 | [], _ :: _, h => h.elim
 | .tmp _ :: _, [], h => h.elim
 | .cell .. :: _, [], h => h.elim
 | .tmp t :: rs, v :: vs, ⟨h1, h2⟩ => by
  have ih := res_run ha h2
  have h0 : (resOne a.tmps (.tmp t)).run P w = .ok v w := by rw [resOne, ha.get t v h1]; rfl
  rw [List.mapM_cons]
  simp [h0, ih]
 | .cell s t :: rs, v :: vs, ⟨⟨g, tb, cs, h1, hty, hb, hv⟩, h2⟩ => by
  have ih := res_run ha h2
  have hg := ha.get s _ h1
  obtain ⟨hA, hS⟩ := aggTy_run (w := w) hty
  have hl := run_loadCells_list (P := P) w ⟨g, 0, none⟩ cs (fun j u hu => by rw [Addr.add_lit, Nat.zero_add, hb.cell]; exact hu)
  have h0 : (resOne a.tmps (.cell s t)).run P w = .ok v w := by
   rw [resOne, hg, hv]
   simp [loadVar, hA, hS, hl, asAddr]
  rw [List.mapM_cons]
  simp [h0, ih]
section
variable {P : Program} {fn : Func} {Post : Value → World → Prop} {w : World} {n : Nat} {L : Env}
theorem results_list {a : Act} {rs : List ResultVar} {vs : List Value} (hr : fn.results = rs.toArray) (ha : Agree a ⟨n, []⟩ L) (h : ResIs P L w rs vs) : (results fn a.tmps).run P w = .ok (resPack vs) w := by
 have hm := res_run ha h
 have e : results fn a.tmps = (do
   let vs ← fn.results.mapM (resOne a.tmps)
   pure (if h : vs.size = 1 then vs[0] else .tuple vs)) := rfl
 rw [e, hr]
 simp only [List.mapM_toArray, Sem.run_bind, Sem.run_map, hm]
 match vs with
 | [] => rfl
 | [v] => rfl
 | _ :: _ :: _ => rfl
theorem e_retL {rs : List ResultVar} {vs : List Value} (hr : fn.results = rs.toArray) (h : ResIs P L w rs vs) (hp : Post (resPack vs) w) : KQ (bodyPost P fn (Ret Post)) .ret ⟨n, []⟩ L w := fun _ ha =>
 bodyPost_ret (results_list hr ha h) ha.defers ⟨_, rfl, hp⟩
end
end Go.Proofs.YtiighkbehiddkaaGreat