/- TpA. Printed by gen.py. -/
import Derived.Test.YtdepakimbagonaaChH
import Derived.Test.YtdepakimbagonaaEx
import Derived.Test.YtdepakimbagonaaE2
import Derived.Laws.StructEq
import Derived.Tactics
import Derived.Tactics2
namespace Go.Proofs.Ytdepakimbagonaa
open Go.RowKit
set_option linter.unusedVariables false
set_option linter.unusedSimpArgs false
set_option maxRecDepth 100000
set_option maxHeartbeats 4000000


set_option maxRecDepth 100000 in
theorem eq_span (a b c d : Int) (w : World) : (Op.equalIn 10000 36 (.agg #[.int .i64 a, .int .i64 b]) (.agg #[.int .i64 c, .int .i64 d])).run Try.prog w = .ok (a == c && b == d) w := by
  have u3 := Try.underlying3
  have a3 := Try.isAgg3
  have z3 := Try.sizeOf3
  have hS : Try.prog.underlying 36 = some (.struct (Try.prog.fieldsOf 36)) := by kernel_rfl
  have hp : Try.prog.stoodInHeld 36 = false := by kernel_rfl
  rw [show (10000 : Nat) = 9999 + 1 from rfl, run_equalIn_agg w 9999 36 _ _ hS hp]
  simp only [Program.fieldsOf, Try.underlying36]
  go_simp
  by_cases h1 : a = c <;> by_cases h2 : b = d <;> simp [h1, h2]
set_option maxRecDepth 100000 in
theorem guard_span (op : BinOp) (x y : Operand) (a b c d : Int) (w : World) : (eqGuard op 36 x y (.agg #[.int .i64 a, .int .i64 b]) (.agg #[.int .i64 c, .int .i64 d])).run Try.prog w = .ok () w := by
  have h : Try.prog.eqGuardType Try.prog.depth 36 = false := by kernel_rfl
  have hpg : ∀ w, (program : Sem Program).run Try.prog w = .ok Try.prog w := fun _ => rfl
  cases op <;> simp [eqGuard, h, hpg]
section
variable {P : Program} {w : World} {L : List (Nat × Value)} {ty : TypeId} {pos : String} {af : Array Edge} {dd : Option Nat} {g : Option (Nat × Bool)}
end


section
variable {P : Program} {w : World} {L : List (Nat × Value)} {ty : TypeId} {pos : String} {af : Array Edge} {dd : Option Nat} {g : Option (Nat × Bool)} {a : Act}
set_option maxRecDepth 100000 in
theorem does_eql_span {x y : Operand} {yt : TypeId} {a b c d : Int} (hx : ev L x = some (.agg [.int .i64 a, .int .i64 b].toArray)) (hy : ev L y = some (.agg [.int .i64 c, .int .i64 d].toArray)) :
    Does Try.prog L ⟨dd, .binOp .eql 36 x y yt, ty, pos, af, g⟩ w (.bool (decide (a = c) && decide (b = d))) := fun ρ hρ => by
  have e : (binOp .eql 36 (.agg #[.int .i64 a, .int .i64 b]) (.agg #[.int .i64 c, .int .i64 d])).run Try.prog w = .ok (.bool (decide (a = c) && decide (b = d))) w := by
    simp only [binOp]
    simp [Op.equal, Op.maxDepth, eq_span]
    by_cases h1 : a = c <;> by_cases h2 : b = d <;> simp [h1, h2]
  simp only [execOp, hρ _ _ hx, hρ _ _ hy]
  simp [guard_span, e]
end
theorem cells2 {sz : Nat} {c d : Nat → Nat → Value} (h0 : ∀ j, j < sz → c 0 j = d 0 j) (h1 : ∀ j, j < sz → c 1 j = d 1 j) : ∀ k j, k < 2 → j < sz → c k j = d k j := by
  intro k j hk hj
  have : k = 0 ∨ k = 1 := by omega
  rcases this with rfl | rfl
  · exact h0 j hj
  · exact h1 j hj
end Go.Proofs.Ytdepakimbagonaa
