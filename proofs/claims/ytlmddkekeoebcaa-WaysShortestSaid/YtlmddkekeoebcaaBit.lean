/- A bit that is set by an 'or'. -/
import Derived.Test.YtlmddkekeoebcaaOps2
namespace Go.Proofs.Ytlmddkekeoebcaa
set_option linter.unusedVariables false
set_option linter.unusedSimpArgs false
open Go.RowKit
theorem nat_or {m k : Nat} (h : m / 2 ^ k % 2 = 0) : m ||| 2 ^ k = m + 2 ^ k := by
  have hq : m / 2 ^ k = 2 * (m / 2 ^ k / 2) := by omega
  have hm : m = 2 ^ k * (2 * (m / 2 ^ k / 2)) + m % 2 ^ k := by rw [← hq]; exact (Nat.div_add_mod m (2 ^ k)).symm
  have hr : m % 2 ^ k < 2 ^ k := Nat.mod_lt _ (Nat.two_pow_pos k)
  generalize m / 2 ^ k / 2 = q at hm
  generalize m % 2 ^ k = r at hm hr
  subst hm
  have e1 : 2 ^ k * (2 * q) + r = 2 ^ k * (2 * q) ||| r := Nat.two_pow_add_eq_or_of_lt hr _
  have e2 : 2 ^ k * (2 * q + 1) + r = 2 ^ k * (2 * q + 1) ||| r := Nat.two_pow_add_eq_or_of_lt hr _
  have e3 : 2 * q + 1 = 2 * q ||| 1 := Nat.two_pow_add_eq_or_of_lt (i := 1) (by omega) q
  have e4 : 2 ^ k * (2 * q + 1) = 2 ^ k * (2 * q) ||| 2 ^ k := by
    rw [e3, Nat.mul_comm, ← Nat.shiftLeft_eq, Nat.shiftLeft_or_distrib, Nat.shiftLeft_eq, Nat.shiftLeft_eq, Nat.one_mul, Nat.mul_comm]
  have e5 : 2 ^ k * (2 * q) + r + 2 ^ k = 2 ^ k * (2 * q + 1) + r := by rw [Nat.mul_add]; omega
  rw [e5, e2, e4, e1, Nat.or_assoc, Nat.or_comm r, ← Nat.or_assoc]
theorem bit_or {m k : Nat} (hm : m ≤ 4095) (hk : k < 12) (h : m / 2 ^ k % 2 = 0) : IntKind.i64.wrap ((BitVec.ofInt 64 (m : Int) ||| BitVec.ofInt 64 ((2 ^ k : Nat) : Int)).toNat : Int) = ((m + 2 ^ k : Nat) : Int) := by
  have hp : 2 ^ k ≤ 2 ^ 11 := Nat.pow_le_pow_right (by omega) (by omega)
  have e : ((BitVec.ofInt 64 (m : Int) ||| BitVec.ofInt 64 ((2 ^ k : Nat) : Int)).toNat) = m + 2 ^ k := by
    rw [BitVec.toNat_or, BitVec.ofInt_natCast, BitVec.ofInt_natCast, BitVec.toNat_ofNat, BitVec.toNat_ofNat, Nat.mod_eq_of_lt (by omega), Nat.mod_eq_of_lt (by omega)]
    exact nat_or h
  rw [e]
  exact i64ok.eq ⟨by omega, by omega⟩
section
variable {P : Program} {L : List (Nat × Value)} {w : World} {d : Option Nat} {ty : TypeId} {pos : String} {af : Array Edge} {g : Option (Nat × Bool)}
theorem does_orB {x y : Operand} {xt yt : TypeId} {m k : Int} (hx : ev L x = some (.int .i64 m)) (hy : ev L y = some (.int .i64 (1 * 2 ^ k.toNat))) (hm : 0 ≤ m ∧ m ≤ 4095) (hk : 0 ≤ k ∧ k < 12) (h : m / 2 ^ k.toNat % 2 = 0) :
    Does P L ⟨d, .binOp .or xt x y yt, ty, pos, af, g⟩ w (.int .i64 (m + 2 ^ k.toNat)) := fun ρ hρ => by
  obtain ⟨m, rfl⟩ : ∃ n : Nat, m = n := ⟨m.toNat, by omega⟩
  have e1 : (1 : Int) * 2 ^ k.toNat = ((2 ^ k.toNat : Nat) : Int) := by push_cast; omega
  have h1 : m / 2 ^ k.toNat % 2 = 0 := by
    have h2 : ((m / 2 ^ k.toNat % 2 : Nat) : Int) = 0 := by push_cast; exact h
    omega
  have e2 : (m : Int) + 2 ^ k.toNat = ((m + 2 ^ k.toNat : Nat) : Int) := by push_cast; rfl
  have e : Op.intBits .or .i64 (m : Int) (1 * 2 ^ k.toNat) = pure (.int .i64 ((m : Int) + 2 ^ k.toNat)) := by
    rw [e1, e2]
    exact congrArg (fun z => (pure (Value.int .i64 z) : Sem Value)) (bit_or (by omega) (by omega) h1)
  rw [Int.one_mul] at e
  simp [execOp, hρ _ _ hx, hρ _ _ hy, eqGuard, binOp, e]
end
end Go.Proofs.Ytlmddkekeoebcaa
