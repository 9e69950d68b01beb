/- More operations: shifts, single bits, the division that rounds towards zero, sums that may wrap, a pointer that is checked. -/
import Derived.Test.YtlmddkekeoebcaaOps
namespace Go.Proofs.Ytlmddkekeoebcaa
set_option linter.unusedVariables false
set_option linter.unusedSimpArgs false
open Go.RowKit
theorem Does.to {P : Program} {L : List (Nat × Value)} {o : Oper} {w : World} {v v' : Value} (h : Does P L o w v) (e : v = v') : Does P L o w v' := e ▸ h

section
variable {P : Program} {L : List (Nat × Value)} {w : World} {d : Option Nat} {ty : TypeId} {pos : String} {af : Array Edge} {g : Option (Nat × Bool)}
theorem does_shr {x y : Operand} {xt yt : TypeId} {k : IntKind} {m n : Int} (hx : ev L x = some (.int .i64 m)) (hy : ev L y = some (.int k n)) (h0 : 0 ≤ n) (h1 : n < 64) :
    Does P L ⟨d, .binOp .shr xt x y yt, ty, pos, af, g⟩ w (.int .i64 (m / 2 ^ n.toNat)) := fun ρ hρ => by
  have e : min n.toNat 64 = n.toNat := by omega
  have hm : m.fdiv (2 ^ n.toNat) = m / 2 ^ n.toNat := Int.fdiv_eq_ediv_of_nonneg _ (Int.le_of_lt (Int.pow_pos (by decide)))
  simp [execOp, hρ _ _ hx, hρ _ _ hy, eqGuard, binOp, Op.shift, IntKind.bits, show ¬ n < 0 by omega, e, hm]
theorem does_shl {x y : Operand} {xt yt : TypeId} {k : IntKind} {m n : Int} (hx : ev L x = some (.int .i64 m)) (hy : ev L y = some (.int k n)) (h0 : 0 ≤ n) (h1 : n < 64) (h : i64ok (m * 2 ^ n.toNat)) :
    Does P L ⟨d, .binOp .shl xt x y yt, ty, pos, af, g⟩ w (.int .i64 (m * 2 ^ n.toNat)) := fun ρ hρ => by
  have e : min n.toNat 64 = n.toNat := by omega
  simp [execOp, hρ _ _ hx, hρ _ _ hy, eqGuard, binOp, Op.shift, IntKind.bits, show ¬ n < 0 by omega, e, h.eq]
theorem bit_and (m : Int) : IntKind.i64.wrap ((BitVec.ofInt 64 m &&& BitVec.ofInt 64 1).toNat : Int) = m % 2 := by
  have e : ((BitVec.ofInt 64 m &&& BitVec.ofInt 64 1).toNat : Int) = m % 2 := by
    rw [BitVec.toNat_and, show (BitVec.ofInt 64 1).toNat = 1 from rfl, Nat.and_one_is_mod, BitVec.toNat_ofInt]
    omega
  rw [e]
  exact i64ok.eq ⟨by omega, by omega⟩
theorem does_and1 {x y : Operand} {xt yt : TypeId} {m : Int} (hx : ev L x = some (.int .i64 m)) (hy : ev L y = some (.int .i64 1)) :
    Does P L ⟨d, .binOp .and xt x y yt, ty, pos, af, g⟩ w (.int .i64 (m % 2)) := fun ρ hρ => by
  have e : Op.intBits .and .i64 m 1 = pure (.int .i64 (m % 2)) := congrArg (fun z => (pure (Value.int .i64 z) : Sem Value)) (bit_and m)
  simp [execOp, hρ _ _ hx, hρ _ _ hy, eqGuard, binOp, e]
theorem does_tdiv {x y : Operand} {xt yt : TypeId} {m n : Int} (hx : ev L x = some (.int .i64 m)) (hy : ev L y = some (.int .i64 n)) (hn : n ≠ 0) (h : i64ok (m.tdiv n)) :
    Does P L ⟨d, .binOp .quo xt x y yt, ty, pos, af, g⟩ w (.int .i64 (m.tdiv n)) := fun ρ hρ => by
  simp [execOp, hρ _ _ hx, hρ _ _ hy, eqGuard, binOp, Op.intDiv, hn, h.eq]
theorem does_tmod {x y : Operand} {xt yt : TypeId} {m n : Int} (hx : ev L x = some (.int .i64 m)) (hy : ev L y = some (.int .i64 n)) (hn : n ≠ 0) :
    Does P L ⟨d, .binOp .rem xt x y yt, ty, pos, af, g⟩ w (.int .i64 (m.tmod n)) := fun ρ hρ => by
  simp [execOp, hρ _ _ hx, hρ _ _ hy, eqGuard, binOp, Op.intDiv, hn]
theorem tdiv_ok {m n : Int} (hm : i64ok m) (hn : 0 < n) : i64ok (m.tdiv n) := by
  have h := Int.mul_tdiv_add_tmod m n
  unfold i64ok at *
  rcases Int.le_total 0 m with h0 | h0
  · rw [Int.tdiv_eq_ediv_of_nonneg h0]
    have := Int.ediv_nonneg h0 (Int.le_of_lt hn)
    have := Int.ediv_le_self n h0
    omega
  · obtain ⟨k, rfl⟩ : ∃ k : Int, m = -k := ⟨-m, by omega⟩
    rw [Int.neg_tdiv, Int.tdiv_eq_ediv_of_nonneg (by omega)]
    have := Int.ediv_nonneg (show 0 ≤ k by omega) (Int.le_of_lt hn)
    have := Int.ediv_le_self n (show 0 ≤ k by omega)
    omega
theorem floor_of {m n : Int} (hn : 0 < n) : (if m.tmod n < 0 then m.tdiv n - 1 else m.tdiv n) = m / n := by
  have h := Int.mul_tdiv_add_tmod m n
  have h1 := Int.tmod_lt_of_pos m hn
  have h2 : -n < m.tmod n := Int.lt_tmod_of_pos m hn
  generalize m.tdiv n = q at h ⊢
  generalize m.tmod n = r at h h1 h2 ⊢
  symm
  split
  · exact ((Int.ediv_emod_unique (a := m) (r := r + n) (q := q - 1) hn).2 ⟨by rw [Int.mul_sub]; omega, by omega, by omega⟩).1
  · exact ((Int.ediv_emod_unique (a := m) (r := r) (q := q) hn).2 ⟨by omega, by omega, by omega⟩).1
theorem does_addW {x y : Operand} {xt yt : TypeId} {m n : Int} (hx : ev L x = some (.int .i64 m)) (hy : ev L y = some (.int .i64 n)) :
    Does P L ⟨d, .binOp .add xt x y yt, ty, pos, af, g⟩ w (.int .i64 (IntKind.i64.wrap (m + n))) := fun ρ hρ => by
  simp [execOp, hρ _ _ hx, hρ _ _ hy, eqGuard, binOp, Op.intArith]
theorem does_nilCheck {x : Operand} {a : Addr} (hx : ev L x = some (.pointer (some a))) : Does P L ⟨d, .nilCheck x, ty, pos, af, g⟩ w (.pointer (some a)) := fun ρ hρ => by
  simp [execOp, hρ _ _ hx]
end
end Go.Proofs.Ytlmddkekeoebcaa
