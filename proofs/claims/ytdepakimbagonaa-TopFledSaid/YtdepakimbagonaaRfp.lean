/- Chapter 8: along the way that was found; an 'xor' with w8one. -/
import Derived.Test.YtdepakimbagonaaRfc
import Derived.Test.YtdepakimbagonaaE1
namespace Go.Proofs.Ytdepakimbagonaa
set_option linter.unusedVariables false
set_option linter.unusedSimpArgs false
open Go.RowKit

section
variable {N : Net} {E : List Eg} {r r2 : Nat → Int} {b x : Nat} {L : Nat → Int} {by_ : Nat → Nat} {m B : Int}
end
section
variable {P T : Nat} {pe xs : List Int} {out : Int} {ps : List Psg}
theorem sm_bd {f : Nat → Int} {c : Int} : ∀ {n : Nat}, (∀ i, i < n → f i ≤ c) → sm f n ≤ c * n := by
  intro n
  induction n with
  | zero => intro _; simp [sm]
  | succ n ih =>
    intro h
    have h1 := ih fun i hi => h i (by omega)
    have h2 := h n (by omega)
    rw [sm, Int.natCast_succ, Int.mul_add]
    omega
end
end Go.Proofs.Ytdepakimbagonaa
