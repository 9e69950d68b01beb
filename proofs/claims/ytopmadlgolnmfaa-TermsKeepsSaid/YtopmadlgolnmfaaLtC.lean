/- LtC. Printed by gen.py. -/
import Derived.Test.YtopmadlgolnmfaaLtB
namespace Go.Proofs.Ytopmadlgolnmfaa
open Go.RowKit
set_option linter.unusedVariables false
set_option linter.unusedSimpArgs false
set_option maxRecDepth 100000
set_option maxHeartbeats 4000000


theorem out_any {y : Yr} {l : List Tsk} {w w' : World} {v : Value} (hte : taskE y l = 0) (h : (taskE y l ≠ 0 ∧ v = .tuple #[.slice none 0 0, .int .i64 (taskE y l)] ∧ St w noF [] w') ∨ (taskE y l = 0 ∧ ∃ A c, v = .tuple #[.slice A y.days.toNat c, .int .i64 0] ∧ St w noF [ownM 3 1 A y.days.toNat c (setsV y l y.us.length)] w')) : ∃ A c, v = .tuple #[.slice A y.days.toNat c, .int .i64 0] ∧ St w noF [ownM 3 1 A y.days.toNat c (setsV y l y.us.length)] w' := by
  rcases h with ⟨h0, _⟩ | ⟨_, h⟩
  · exact absurd hte h0
  · exact h
section
variable {y : Yr} {l : List Tsk} {u : Int} {i : Nat}
end


end Go.Proofs.Ytopmadlgolnmfaa
