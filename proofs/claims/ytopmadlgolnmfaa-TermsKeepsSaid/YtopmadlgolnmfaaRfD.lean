/- RfD. Printed by gen.py. -/
import Derived.Test.YtopmadlgolnmfaaRfC
namespace Go.Proofs.Ytopmadlgolnmfaa
open Go.RowKit
set_option linter.unusedVariables false
set_option linter.unusedSimpArgs false
set_option maxRecDepth 100000
set_option maxHeartbeats 4000000


theorem sum_bd {pe : List Int} (hpp : ∀ k, k < pe.length → 0 ≤ pe.getD k 0 ∧ pe.getD k 0 ≤ 1000) (hl : pe.length ≤ 12) {k : Nat} (hk : k ≤ pe.length) : 0 ≤ sumI pe k ∧ sumI pe k ≤ 12000 := by
  have := sumI_bd hpp k hk
  omega


end Go.Proofs.Ytopmadlgolnmfaa
