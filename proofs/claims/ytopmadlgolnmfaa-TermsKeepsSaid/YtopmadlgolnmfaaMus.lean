/- Chapter 8: the hours in which everybody can be out in time, and the escalators that must not be out, too. -/
import Derived.Test.YtopmadlgolnmfaaE4
import Derived.Test.YtopmadlgolnmfaaE5
namespace Go.Proofs.Ytopmadlgolnmfaa
set_option linter.unusedVariables false
set_option linter.unusedSimpArgs false
open Go.RowKit

/-- Whether everybody can be out. -/
noncomputable def allB (P T : Nat) (ps : List Psg) (xs : List Int) (out : Int) (pe : List Int) : Bool := decide (mfv P T pe xs (hds out xs ps) = sumI pe pe.length)
noncomputable def safeN (P T : Nat) (ps : List Psg) (xs : List Int) (day : List Hq) : Nat := fstB (fun k => !allB P T ps xs (day.getD k Hq.zero).out (day.getD k Hq.zero).pe) day.length
/-- The hour, whether everybody can be out in all, the error. -/
noncomputable def safeV (pl : Int) (ps : List Psg) (xs : List Int) (day : List Hq) (T0 : Int) : Int × Bool × Int :=
  if dayE pl ps xs day ≠ 0 then (0, false, dayE pl ps xs day) else if ¬ (0 ≤ T0 ∧ T0 ≤ 60) then (0, false, 1)
  else if safeN pl.toNat T0.toNat ps xs day < day.length then ((safeN pl.toNat T0.toNat ps xs day : Int), false, 0) else (0, true, 0)
section
variable {P T : Nat} {ps : List Psg} {xs : List Int} {day : List Hq} {h : Nat}
theorem safe_err {pl T0 : Int} (he : dayE pl ps xs day ≠ 0) : safeV pl ps xs day T0 = (0, false, dayE pl ps xs day) := by unfold safeV; rw [if_pos he]
theorem safe_arg {pl T0 : Int} (he : dayE pl ps xs day = 0) (hT : ¬ (0 ≤ T0 ∧ T0 ≤ 60)) : safeV pl ps xs day T0 = (0, false, 1) := by unfold safeV; rw [if_neg (by omega), if_pos hT]
theorem safe_at (he : dayE P ps xs day = 0) (hT : T ≤ 60) (hh : h < day.length) (h1 : ∀ q, q < h → allB P T ps xs (day.getD q Hq.zero).out (day.getD q Hq.zero).pe = true) (h2 : allB P T ps xs (day.getD h Hq.zero).out (day.getD h Hq.zero).pe = false) : safeV P ps xs day T = ((h : Int), false, 0) := by
  have e2 : safeN P T ps xs day = h := fst_at (fun q hq => by rw [h1 q hq]; rfl) (by rw [h2]; rfl) hh
  unfold safeV
  rw [if_neg (by omega), if_neg (by omega), Int.toNat_natCast, Int.toNat_natCast, e2, if_pos hh]
theorem safe_all (he : dayE P ps xs day = 0) (hT : T ≤ 60) (h1 : ∀ q, q < day.length → allB P T ps xs (day.getD q Hq.zero).out (day.getD q Hq.zero).pe = true) : safeV P ps xs day T = (0, true, 0) := by
  have e2 : safeN P T ps xs day = day.length := fst_none (fun q hq => by rw [h1 q hq]; rfl)
  unfold safeV
  rw [if_neg (by omega), if_neg (by omega), Int.toNat_natCast, Int.toNat_natCast, e2, if_neg (by omega)]
theorem safe_next {f : Nat → Bool} (h1 : ∀ q, q < h → f q = true) (h2 : f h = true) : ∀ q, q < h + 1 → f q = true := fun q hq => by
  by_cases e : q = h
  · subst e; exact h2
  · exact h1 q (by omega)
end

/-! ## the escalators -/
section
variable {P : Nat} {ps : List Psg} {xs : List Int} {out : Int} {f : Nat → Bool}
end
end Go.Proofs.Ytopmadlgolnmfaa
