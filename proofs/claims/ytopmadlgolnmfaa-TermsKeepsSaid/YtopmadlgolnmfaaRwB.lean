/- RwB. Printed by gen.py. -/
import Derived.Test.YtopmadlgolnmfaaRwA
import Derived.Test.YtopmadlgolnmfaaE2
namespace Go.Proofs.Ytopmadlgolnmfaa
open Go.RowKit
set_option linter.unusedVariables false
set_option linter.unusedSimpArgs false
set_option maxRecDepth 100000
set_option maxHeartbeats 4000000


def sameI (a b : List Int) : Bool := decide (a = b)
theorem same_len {a b : List Int} (h : a.length ≠ b.length) : sameI a b = false := decide_eq_false fun e => h (by rw [e])
theorem same_at {a b : List Int} {k : Nat} (h : ¬ a.getD k 0 = b.getD k 0) : sameI a b = false := decide_eq_false fun e => h (by rw [e])
theorem same_all {a b : List Int} (hn : a.length = b.length) (h : ∀ k, k < a.length → a.getD k 0 = b.getD k 0) : sameI a b = true := decide_eq_true (List.ext_getElem hn fun k h1 h2 => by
  have := h k h1
  rwa [List.getD_eq_getElem?_getD, List.getD_eq_getElem?_getD, List.getElem?_eq_getElem h1, List.getElem?_eq_getElem h2] at this)
theorem eq_next {a b : List Int} {k : Nat} (h : ∀ q, q < k → a.getD q 0 = b.getD q 0) (hk : a.getD k 0 = b.getD k 0) : ∀ q, q < k + 1 → a.getD q 0 = b.getD q 0 := fun q hq => by
  by_cases e : q = k
  · subst e; exact hk
  · exact h q (by omega)


end Go.Proofs.Ytopmadlgolnmfaa
