/- ChO. Printed by gen.py. -/
import Derived.Test.YtopmadlgolnmfaaChN
namespace Go.Proofs.Ytopmadlgolnmfaa
open Go.RowKit
set_option linter.unusedVariables false
set_option linter.unusedSimpArgs false
set_option maxRecDepth 100000
set_option maxHeartbeats 4000000


theorem worn_yes {w : World} {p : Part} {l : List Use} {v : Value} {w' : World} (hA : IsAt p l l.length) (h : Worn w p l v w') : ∃ A' c', v = .tuple #[.slice A' l.length c', .bool true] ∧ St w noF [ownM 68 2 A' l.length c' (fcell (wearAt p l))] w' := by
  rcases h with ⟨_, h⟩ | ⟨h, _⟩
  · exact h
  · exact absurd hA h
theorem worn_no {w : World} {p : Part} {l : List Use} {v : Value} {w' : World} (hA : ¬ IsAt p l l.length) (h : Worn w p l v w') : v = .tuple #[.slice none 0 0, .bool false] ∧ St w noF [] w' := by
  rcases h with ⟨h, _⟩ | ⟨_, h⟩
  · exact absurd h hA
  · exact h
end Go.Proofs.Ytopmadlgolnmfaa
