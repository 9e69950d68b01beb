/- ChG. Printed by gen.py. -/
import Derived.Test.YtdepakimbagonaaChF
import Derived.Test.YtdepakimbagonaaF1
namespace Go.Proofs.Ytdepakimbagonaa
open Go.RowKit
set_option linter.unusedVariables false
set_option linter.unusedSimpArgs false
set_option maxRecDepth 100000
set_option maxHeartbeats 4000000


/-- Witness: the error, or each length. -/
def witO (c : Chain) (l : List Gauge) (a b len : Int) : Except Int (Nat → Int) := match wholeO c l (isRunB c a b) with
  | .error e => .error e
  | .ok M => if -(M b.toNat a.toNat) ≤ len ∧ len ≤ M a.toNat b.toNat then .ok (witN (witS M a.toNat b.toNat len)) else .error 1
def WitR (w : World) (n : Nat) (o : Except Int (Nat → Int)) (v : Value) (w' : World) : Prop := match o with
  | .error e => v = .tuple #[.slice none 0 0, .int .i64 e] ∧ St w noF [] w'
  | .ok f => ∃ A' c', v = .tuple #[.slice A' n c', .int .i64 0] ∧ St w noF [ownM 3 1 A' n c' (fun k _ => .int .i64 (f k))] w'


end Go.Proofs.Ytdepakimbagonaa
