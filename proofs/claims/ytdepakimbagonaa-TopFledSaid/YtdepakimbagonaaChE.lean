/- ChE. Printed by gen.py. -/
import Derived.Test.YtdepakimbagonaaFacts
import Derived.Test.YtdepakimbagonaaF1
import Derived.Test.YtdepakimbagonaaShelf
namespace Go.Proofs.Ytdepakimbagonaa
open Go.RowKit
set_option linter.unusedVariables false
set_option linter.unusedSimpArgs false
set_option maxRecDepth 100000
set_option maxHeartbeats 4000000


def Whole (w : World) (n : Nat) (o : Except Int IM) (v : Value) (w' : World) : Prop := match o with
  | .ok M => ∃ W rb rc, v = .tuple #[.slice W n n, .int .i64 0] ∧ St w noF [ownM 25 1 W n n (fun i _ => rowv rb rc n i), rowsM 3 n n rb rc (M)] w'
  | .error e => v = .tuple #[.slice none 0 0, .int .i64 e] ∧ St w noF [] w'
theorem ret_imp {P : Program} {f : Nat} {vs : Array Value} {w : World} {R R' : Value → World → Prop} (h : Calls P f vs w (Ret R)) (k : ∀ v w', R v w' → R' v w') : Calls P f vs w (Ret R') := Calls.mono h fun e w' he => by
  cases e with
  | returned v => exact k v w' he
  | _ => exact he
end Go.Proofs.Ytdepakimbagonaa
