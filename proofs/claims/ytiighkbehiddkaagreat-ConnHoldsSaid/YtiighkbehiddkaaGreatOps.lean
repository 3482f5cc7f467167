/-
 The walk's single operations: what each yields, over any program; the words for memory (a slice of bytes that reads as a list; a row of one's own; a block known whole). Plain laws. No condition.
-/
import Derived.Test.YtiighkbehiddkaaGreatWk
import Derived.Maps.AppendAt
import Derived.Deep.AppendLies
import Derived.Deep.Draws
import Derived.Laws.BytesArg
import Derived.Laws.MakeOwn
import Derived.Laws.OwnMore
namespace Go.Proofs.YtiighkbehiddkaaGreat
open Go.RowKit
/-! Values alone. -/
section
variable {P : Program} {L : Env} {w : World} {d : Option Nat} {ty : TypeId} {pos : String} {aft : Array Edge} {gd : Option (Nat × Bool)}
theorem ov_move {x : Operand} {v : Value} (hx : ev L x = some v) : OpVal P ⟨d, .move x, ty, pos, aft, gd⟩ L w v :=
 opVal_of fun ρ h1 _ => by simp [execOp, h1 x v hx]
theorem ov_assign {x : Operand} {v : Value} (hx : ev L x = some v) : OpVal P ⟨d, .assign x, ty, pos, aft, gd⟩ L w v :=
 opVal_of fun ρ h1 _ => by simp [execOp, h1 x v hx]
theorem ov_pick_t {c x y : Operand} {v : Value} (hc : ev L c = some (.bool true)) (hx : ev L x = some v) : OpVal P ⟨d, .pick c x y, ty, pos, aft, gd⟩ L w v :=
 opVal_of fun ρ h1 _ => by simp [execOp, h1 c _ hc, h1 x v hx, asBool]
theorem ov_pick_f {c x y : Operand} {v : Value} (hc : ev L c = some (.bool false)) (hx : ev L y = some v) : OpVal P ⟨d, .pick c x y, ty, pos, aft, gd⟩ L w v :=
 opVal_of fun ρ h1 _ => by simp [execOp, h1 c _ hc, h1 y v hx, asBool]
theorem ov_not {ut : TypeId} {x : Operand} {b : Bool} (hx : ev L x = some (.bool b)) : OpVal P ⟨d, .unOp .not ut x, ty, pos, aft, gd⟩ L w (.bool (!b)) :=
 opVal_of fun ρ h1 _ => by simp [execOp, h1 x _ hx, unary_not]
theorem ov_extract {x : Operand} {i : Nat} {vs : Array Value} {v : Value} (hx : ev L x = some (.tuple vs)) (hi : vs[i]? = some v) : OpVal P ⟨d, .extract x i, ty, pos, aft, gd⟩ L w v :=
 opVal_of fun ρ h1 _ => by simp [execOp, h1 x _ hx, Instr.extract, hi]
theorem ov_nilCheck {x : Operand} {a : Addr} (hx : ev L x = some (.pointer (some a))) : OpVal P ⟨d, .nilCheck x, ty, pos, aft, gd⟩ L w (.pointer (some a)) :=
 opVal_of fun ρ h1 _ => by simp [execOp, h1 x _ hx]
section
variable {k : IntKind} {tx tyy : TypeId} {x y : Operand} {a b m : Int}
theorem ov_add (hx : ev L x = some (.int k a)) (hy : ev L y = some (.int k b)) (hm : k.wrap (a + b) = m) : OpVal P ⟨d, .binOp .add tx x y tyy, ty, pos, aft, gd⟩ L w (.int k m) :=
 opVal_of fun ρ h1 _ => by simp [execOp, h1 x _ hx, h1 y _ hy, go_sem, hm]
theorem ov_sub (hx : ev L x = some (.int k a)) (hy : ev L y = some (.int k b)) (hm : k.wrap (a - b) = m) : OpVal P ⟨d, .binOp .sub tx x y tyy, ty, pos, aft, gd⟩ L w (.int k m) :=
 opVal_of fun ρ h1 _ => by simp [execOp, h1 x _ hx, h1 y _ hy, go_sem, hm]
theorem ov_mul (hx : ev L x = some (.int k a)) (hy : ev L y = some (.int k b)) (hm : k.wrap (a * b) = m) : OpVal P ⟨d, .binOp .mul tx x y tyy, ty, pos, aft, gd⟩ L w (.int k m) :=
 opVal_of fun ρ h1 _ => by simp [execOp, h1 x _ hx, h1 y _ hy, go_sem, hm]
theorem ov_quo (hx : ev L x = some (.int k a)) (hy : ev L y = some (.int k b)) (hb : b ≠ 0) (hm : k.wrap (a.tdiv b) = m) : OpVal P ⟨d, .binOp .quo tx x y tyy, ty, pos, aft, gd⟩ L w (.int k m) :=
 opVal_of fun ρ h1 _ => by simp [execOp, h1 x _ hx, h1 y _ hy, go_sem, hb, hm]
theorem ov_rem (hx : ev L x = some (.int k a)) (hy : ev L y = some (.int k b)) (hb : b ≠ 0) (hm : a.tmod b = m) : OpVal P ⟨d, .binOp .rem tx x y tyy, ty, pos, aft, gd⟩ L w (.int k m) :=
 opVal_of fun ρ h1 _ => by simp [execOp, h1 x _ hx, h1 y _ hy, go_sem, hb, hm]
theorem ov_lss (hx : ev L x = some (.int k a)) (hy : ev L y = some (.int k b)) : OpVal P ⟨d, .binOp .lss tx x y tyy, ty, pos, aft, gd⟩ L w (.bool (decide (a < b))) :=
 opVal_of fun ρ h1 _ => by simp [execOp, h1 x _ hx, h1 y _ hy, go_sem]
theorem ov_leq (hx : ev L x = some (.int k a)) (hy : ev L y = some (.int k b)) : OpVal P ⟨d, .binOp .leq tx x y tyy, ty, pos, aft, gd⟩ L w (.bool (decide (a ≤ b))) :=
 opVal_of fun ρ h1 _ => by simp [execOp, h1 x _ hx, h1 y _ hy, go_sem]
theorem ov_gtr (hx : ev L x = some (.int k a)) (hy : ev L y = some (.int k b)) : OpVal P ⟨d, .binOp .gtr tx x y tyy, ty, pos, aft, gd⟩ L w (.bool (decide (b < a))) :=
 opVal_of fun ρ h1 _ => by simp [execOp, h1 x _ hx, h1 y _ hy, go_sem]
theorem ov_geq (hx : ev L x = some (.int k a)) (hy : ev L y = some (.int k b)) : OpVal P ⟨d, .binOp .geq tx x y tyy, ty, pos, aft, gd⟩ L w (.bool (decide (b ≤ a))) :=
 opVal_of fun ρ h1 _ => by simp [execOp, h1 x _ hx, h1 y _ hy, go_sem]
theorem ov_eql (hx : ev L x = some (.int k a)) (hy : ev L y = some (.int k b)) : OpVal P ⟨d, .binOp .eql tx x y tyy, ty, pos, aft, gd⟩ L w (.bool (decide (a = b))) :=
 opVal_of fun ρ h1 _ => by simp [execOp, h1 x _ hx, h1 y _ hy, go_sem]; rfl
theorem ov_neq (hx : ev L x = some (.int k a)) (hy : ev L y = some (.int k b)) : OpVal P ⟨d, .binOp .neq tx x y tyy, ty, pos, aft, gd⟩ L w (.bool (decide (a ≠ b))) :=
 opVal_of fun ρ h1 _ => by
  simp [execOp, h1 x _ hx, h1 y _ hy, go_sem]
  by_cases h : a = b <;> simp [h]
theorem ov_bits {bo : BinOp} (hbo : bo = .and ∨ bo = .or ∨ bo = .xor ∨ bo = .andNot) (hx : ev L x = some (.int k a)) (hy : ev L y = some (.int k b)) (hm : bits bo k a b = m) : OpVal P ⟨d, .binOp bo tx x y tyy, ty, pos, aft, gd⟩ L w (.int k m) :=
 opVal_of fun ρ h1 _ => by
  rcases hbo with h | h | h | h <;> subst h <;> simp [execOp, h1 x _ hx, h1 y _ hy, go_sem] <;> exact hm
theorem ov_shl {ky : IntKind} (hx : ev L x = some (.int k a)) (hy : ev L y = some (.int ky b)) (h0 : 0 ≤ b) (h1' : b ≤ k.bits) (hm : k.wrap (a * 2 ^ b.toNat) = m) : OpVal P ⟨d, .binOp .shl tx x y tyy, ty, pos, aft, gd⟩ L w (.int k m) :=
 opVal_of fun ρ h1 _ => by simp only [execOp, h1 x _ hx, h1 y _ hy, eqGuard_shl, binOp_shl, shift_shl k ky a b h0 h1', hm]; rfl
theorem ov_shr {ky : IntKind} (hx : ev L x = some (.int k a)) (hy : ev L y = some (.int ky b)) (h0 : 0 ≤ b) (h1' : b ≤ k.bits) (hm : a / 2 ^ b.toNat = m) : OpVal P ⟨d, .binOp .shr tx x y tyy, ty, pos, aft, gd⟩ L w (.int k m) :=
 opVal_of fun ρ h1 _ => by simp only [execOp, h1 x _ hx, h1 y _ hy, eqGuard_shr, binOp_shr, shift_shr k ky a b h0 h1', hm]; rfl
theorem ov_conv {ks kd : IntKind} {src dst : TypeId} (hs : P.underlying src = some (.int ks)) (hd : P.underlying dst = some (.int kd)) (hx : ev L x = some (.int k a)) (hm : kd.wrap a = m) : OpVal P ⟨d, .convert src dst x, ty, pos, aft, gd⟩ L w (.int kd m) :=
 opVal_of fun ρ h1 _ => by simp [execOp, h1 x _ hx, convert, run_underlying hs, run_underlying hd, Conv.intToInt, hm]
theorem ov_min {tys : Array TypeId} (hx : ev L x = some (.int k a)) (hy : ev L y = some (.int k b)) (hm : min a b = m) : OpVal P ⟨d, .call ⟨.builtin .min, #[x, y], tys⟩, ty, pos, aft, gd⟩ L w (.int k m) :=
 opVal_of fun ρ h1 _ => by
  simp [execOp, h1 x _ hx, h1 y _ hy, resolve, invoke, builtin, run_min_int2]
  omega
end
theorem ov_neb {x y : Operand} {tx tyy : TypeId} {a b : Bool} (hu : P.underlying tx = some .bool) (hx : ev L x = some (.bool a)) (hy : ev L y = some (.bool b)) : OpVal P ⟨d, .binOp .neq tx x y tyy, ty, pos, aft, gd⟩ L w (.bool (a != b)) :=
 opVal_of fun ρ h1 _ => by simp [execOp, h1 x _ hx, h1 y _ hy, go_sem, hu]; cases a <;> cases b <;> rfl
/-! Strings, by the list of their bytes. -/
abbrev strB (l : List UInt8) : ByteArray := ⟨l.toArray⟩
theorem ov_seq {x y : Operand} {tx tyy : TypeId} {l m : List UInt8} (hx : ev L x = some (.string (strB l))) (hy : ev L y = some (.string (strB m))) : OpVal P ⟨d, .binOp .eql tx x y tyy, ty, pos, aft, gd⟩ L w (.bool (decide (l = m))) :=
 opVal_of fun ρ h1 _ => by
  simp [execOp, h1 x _ hx, h1 y _ hy, go_sem]
  by_cases h : l = m <;> simp [h]
theorem ov_sne {x y : Operand} {tx tyy : TypeId} {l m : List UInt8} (hx : ev L x = some (.string (strB l))) (hy : ev L y = some (.string (strB m))) : OpVal P ⟨d, .binOp .neq tx x y tyy, ty, pos, aft, gd⟩ L w (.bool (decide (l ≠ m))) :=
 opVal_of fun ρ h1 _ => by
  simp [execOp, h1 x _ hx, h1 y _ hy, go_sem]
  by_cases h : l = m <;> simp [h]
theorem ov_slen {x : Operand} {t : TypeId} {l : List UInt8} (hu : P.underlying t = some .string) (hx : ev L x = some (.string (strB l))) : OpVal P ⟨d, .call ⟨.builtin .len, #[x], #[t]⟩, ty, pos, aft, gd⟩ L w (.int .i64 l.length) :=
 opVal_of fun ρ h1 _ => by simp [execOp, h1 x _ hx, resolve, invoke, builtin, run_len_string w t ty _ hu, goInt, ByteArray.size]
theorem ov_len {x : Operand} {t e : TypeId} {A : Option Addr} {n c : Nat} (hu : P.underlying t = some (.slice e)) (hx : ev L x = some (.slice A n c)) : OpVal P ⟨d, .call ⟨.builtin .len, #[x], #[t]⟩, ty, pos, aft, gd⟩ L w (.int .i64 n) :=
 opVal_of fun ρ h1 _ => by
  have hu' : P.underlying t = some (.slice (P.elem t)) := by simp [Program.elem, hu]
  simp [execOp, h1 x _ hx, resolve, invoke, builtin, run_len_slice w t ty A n c hu', goInt]
theorem ov_nilptr {x : Operand} {tp te tyy : TypeId} {p : Option Addr} (hu : P.underlying tp = some (.pointer te)) (hx : ev L x = some (.pointer p)) : OpVal P ⟨d, .binOp .eql tp x (.const (.pointer none)) tyy, ty, pos, aft, gd⟩ L w (.bool p.isNone) :=
 opVal_of fun ρ h1 _ => by
  have hu' : P.underlying tp = some (.pointer (P.pointee tp)) := by simp [Program.pointee, hu]
  have hc := h1 (.const (.pointer none)) _ rfl
  simp [execOp, h1 x _ hx, hc, go_sem, run_eql_pointer_nil w tp p hu']
theorem ov_nnilptr {x : Operand} {tp te tyy : TypeId} {p : Option Addr} (hu : P.underlying tp = some (.pointer te)) (hx : ev L x = some (.pointer p)) : OpVal P ⟨d, .binOp .neq tp x (.const (.pointer none)) tyy, ty, pos, aft, gd⟩ L w (.bool p.isSome) :=
 opVal_of fun ρ h1 _ => by
  have hu' : P.underlying tp = some (.pointer (P.pointee tp)) := by simp [Program.pointee, hu]
  have hc := h1 (.const (.pointer none)) _ rfl
  simp [execOp, h1 x _ hx, hc, go_sem, run_neq_pointer_nil w tp p hu']
end
/-! Steps that come often, with short names. -/
section
variable {P : Program} {ops : Array Oper} {Q : Exit → Act → World → Prop} {rest : List Oper} {n : Nd} {L : Env} {w : World} {d : Nat} {ty : TypeId} {pos : String} {aft : Array Edge} {x y : Operand} {v : Value}
theorem va (hx : ev L x = some v) (hn : Nat.blt d n.n = true) (k : WL P ops Q rest n ((d, v) :: L) w) : WL P ops Q (⟨some d, .assign x, ty, pos, aft, none⟩ :: rest) n L w := wl_val (ov_assign hx) rfl rfl hn k
theorem vm (hx : ev L x = some v) (hn : Nat.blt d n.n = true) (k : WL P ops Q rest n ((d, v) :: L) w) : WL P ops Q (⟨some d, .move x, ty, pos, aft, none⟩ :: rest) n L w := wl_val (ov_move hx) rfl rfl hn k
theorem vn {a : Addr} (hx : ev L x = some (.pointer (some a))) (hn : Nat.blt d n.n = true) (k : WL P ops Q rest n ((d, .pointer (some a)) :: L) w) : WL P ops Q (⟨some d, .nilCheck x, ty, pos, aft, none⟩ :: rest) n L w := wl_val (ov_nilCheck hx) rfl rfl hn k
theorem ve {tx tyy : TypeId} {k1 : IntKind} {a b : Int} (hx : ev L x = some (.int k1 a)) (hy : ev L y = some (.int k1 b)) (hn : Nat.blt d n.n = true) (k : WL P ops Q rest n ((d, .bool (decide (a = b))) :: L) w) : WL P ops Q (⟨some d, .binOp .eql tx x y tyy, ty, pos, aft, none⟩ :: rest) n L w := wl_val (ov_eql hx hy) rfl rfl hn k
theorem vx {i : Nat} {vs : Array Value} (hx : ev L x = some (.tuple vs)) (hi : vs[i]? = some v) (hn : Nat.blt d n.n = true) (k : WL P ops Q rest n ((d, v) :: L) w) : WL P ops Q (⟨some d, .extract x i, ty, pos, aft, none⟩ :: rest) n L w := wl_val (ov_extract hx hi) rfl rfl hn k
end
end Go.Proofs.YtiighkbehiddkaaGreat