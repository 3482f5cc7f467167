/-
  A function that panics, a call that is deferred and recovers. Plain laws, over any program. No condition.
-/
import Derived.Test.YtopfjpkjpmdhaaaRes
import Derived.Recover
namespace Go.Proofs.Ytopfjpkjpmdhaaa
open Go.RowKit
set_option linter.unusedVariables false

section
variable {P : Program} {L : Env} {w : World} {d : Option Nat} {ty : TypeId} {pos : String} {aft : Array Edge} {gd : Option (Nat × Bool)}
theorem ov_mkIface {t : TypeId} {td : TypeDesc} {x : Operand} {v : Value} (hu : P.underlying t = some td) (hn : ∀ ms, td ≠ .interface ms) (hx : ev L x = some v) : OpVal P ⟨d, .makeInterface t x, ty, pos, aft, gd⟩ L w (.iface t v) :=
  opVal_of fun ρ h1 _ => by
    cases td <;> first | (exact absurd rfl (hn _)) | simp [execOp, h1 x v hx, Instr.makeInterface, run_underlying hu]
theorem wl_panicI {ops : Array Oper} {Q : Exit → Act → World → Prop} {rest : List Oper} {n : Nd} {t : TypeId} {v : Value} {x : Operand} (hx : ev L x = some (.iface t v)) (k : KQ Q (.panic [{ v := .iface t v, recovered := false }]) n L w) :
    WL P ops Q (⟨none, .panic x, ty, pos, aft, none⟩ :: rest) n L w :=
  wl_panic (fun ρ h1 => by simp [execOp, h1 x _ hx, go_sem]) rfl k
theorem or_callP {f : FuncId} {fo : Operand} {args : List Operand} {tys : Array TypeId} {first caps : Array Value} {vs : List Value} {Post : Value → World → Prop} {PostP : List PanicEntry → World → Prop} (hcl : callable P f = true)
    (hfo : ev L fo = some (.func (.func f) first caps)) (ha : evs L args = some vs) (hc : FnP P f (first ++ vs.toArray ++ caps) w Post PostP) :
    OpRunP P ⟨d, .call ⟨.value fo, args.toArray, tys⟩, ty, pos, aft, gd⟩ L w Post PostP := by
  intro a n K Q hA hk hkp
  have hargs := hA.evals ha
  have hfv := hA.eval hfo
  have hrun : (execOp a.eval ⟨d, .call ⟨.value fo, args.toArray, tys⟩, ty, pos, aft, gd⟩).run P w = .ok (.enter f (first ++ vs.toArray ++ caps)) w := by
    simp [execOp, resolve, invoke, hfv, Deferred.ofValue, callFunc_enter hcl, hargs]
  unfold Oper.wp
  rw [hrun]
  simp only [Oper.upon]
  refine Calls.mono hc ?_
  rintro e w' (⟨v, rfl, hp⟩ | ⟨ch, rfl, hp⟩)
  · exact hk v w' hp
  · exact hkp ch w' hp
theorem or_callP0 {f : FuncId} {fo : Operand} {args : List Operand} {tys : Array TypeId} {vs : List Value} {Post : Value → World → Prop} {PostP : List PanicEntry → World → Prop} (hcl : callable P f = true)
    (hfo : ev L fo = some (.func (.func f) #[] #[])) (ha : evs L args = some vs) (hc : FnP P f vs.toArray w Post PostP) :
    OpRunP P ⟨d, .call ⟨.value fo, args.toArray, tys⟩, ty, pos, aft, gd⟩ L w Post PostP :=
  or_callP hcl hfo ha (by simpa using hc)
end

section
variable {P : Program} {fn : Func} {c : Code} {f : FuncId} {Post : Value → World → Prop} {PostP : List PanicEntry → World → Prop} {w : World} {n : Nat} {L : Env}
theorem fnP_enter {args : List Value} (hf : P.funcs[f]? = some fn) (hb : fn.body = some c) (hn : fn.ntmps = n) (hle : Nat.ble args.length n = true)
    (h : WC P c (bodyPost P fn (RetP Post PostP)) ⟨n, []⟩ (argEnv 0 args) w) : FnP P f args.toArray w Post PostP := by
  have hle' : args.length ≤ n := Nat.le_of_ble_eq_true hle
  refine calls_of_wp hf hb (h _ ⟨?_, rfl, fun i v hv => ?_⟩)
  · simp [hn]; omega
  · obtain ⟨_, h2⟩ := argEnv_get args 0 i v hv
    simp only [Nat.sub_zero] at h2
    obtain ⟨hlt, hval⟩ := List.getElem?_eq_some_iff.1 h2
    simp [Array.getElem?_append, hlt, hval]
theorem fnD_enter {args : List Value} (hf : P.funcs[f]? = some fn) (hb : fn.body = some c) (hn : fn.ntmps = n) (hle : Nat.ble args.length n = true)
    (h : WC P c (bodyPostD P fn (Ret Post)) ⟨n, []⟩ (argEnv 0 args) w) : Fn P f args.toArray w Post := by
  have hle' : args.length ≤ n := Nat.le_of_ble_eq_true hle
  refine calls_of_wp_defers hf hb (h _ ⟨?_, rfl, fun i v hv => ?_⟩)
  · simp [hn]; omega
  · obtain ⟨_, h2⟩ := argEnv_get args 0 i v hv
    simp only [Nat.sub_zero] at h2
    obtain ⟨hlt, hval⟩ := List.getElem?_eq_some_iff.1 h2
    simp [Array.getElem?_append, hlt, hval]
theorem e_retLP {rs : List ResultVar} {vs : List Value} (hr : fn.results = rs.toArray) (h : ResIs P L w rs vs) (hp : Post (resPack vs) w) : KQ (bodyPost P fn (RetP Post PostP)) .ret ⟨n, []⟩ L w := fun _ ha =>
  bodyPost_ret (results_list hr ha h) ha.defers (.inl ⟨_, rfl, hp⟩)
theorem e_endLP {rs : List ResultVar} {vs : List Value} (hr : fn.results = rs.toArray) (h : ResIs P L w rs vs) (hp : Post (resPack vs) w) : KQ (bodyPost P fn (RetP Post PostP)) .normal ⟨n, []⟩ L w := fun _ ha =>
  bodyPost_end (results_list hr ha h) ha.defers (.inl ⟨_, rfl, hp⟩)
theorem e_panP {ch : List PanicEntry} (hp : PostP ch w) : KQ (bodyPost P fn (RetP Post PostP)) (.panic ch) ⟨n, []⟩ L w := fun _ ha => ⟨ha.defers, .inr ⟨ch, rfl, hp⟩⟩
/-- A panic meets a deferred call that recovers it: the function returns; no result. -/
theorem e_panD {g : FuncId} {v : Value} (hr : fn.results = #[]) (hi : (invoke (.fn (.func g) #[]) #[]).run P w = .ok (.enter g #[]) w)
    (hc : CallsD P g #[] (.panicking [{ v, recovered := false }]) w fun e u x => e = .returned (.tuple #[]) ∧ u = .panicking [{ v, recovered := true }] ∧ x = w) (hp : Post (.tuple #[]) w) :
    KQ (bodyPostD P fn (Ret Post)) (.panic [{ v, recovered := false }]) ⟨n, [⟨.fn (.func g) #[], #[]⟩]⟩ L w := fun a ha => by
  show Leaves P fn a.tmps (Ret Post) a.defers (.panicking [{ v, recovered := false }]) w
  rw [ha.defers]
  refine leaves_cons (f := g) (args := #[]) (by simp) hi (hc.mono ?_)
  rintro e u x ⟨rfl, rfl, rfl⟩
  exact ⟨.tuple #[], results_none hr _ _ _, _, rfl, hp⟩
end

end Go.Proofs.Ytopfjpkjpmdhaaa
