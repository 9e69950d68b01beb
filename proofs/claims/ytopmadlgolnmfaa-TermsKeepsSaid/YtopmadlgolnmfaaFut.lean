/- Plans, plain: uses that nobody measures tell nothing of what was before. -/
import Derived.Test.YtopmadlgolnmfaaPt
namespace Go.Proofs.Ytopmadlgolnmfaa
set_option linter.unusedVariables false
set_option linter.unusedSimpArgs false
open Go.RowKit

theorem take_get {l : List Use} {m k : Nat} (hk : k < m) : (l.take m).getD k Use.zero = l.getD k Use.zero := by
  rw [List.getD_eq_getElem?_getD, List.getD_eq_getElem?_getD, List.getElem?_take_of_lt hk]
theorem take_fwd {p : Part} {l : List Use} {m : Nat} : ∀ k, k ≤ m → fwd p (l.take m) k = fwd p l k := by
  intro k
  induction k with
  | zero => intro _; rfl
  | succ k ih =>
    intro hk
    rw [fwd, fwd, take_get (show k < m by omega), ih (by omega)]
theorem take_sumT {l : List Use} {m : Nat} : ∀ k, k ≤ m → sumT (l.take m) k = sumT l k := by
  intro k
  induction k with
  | zero => intro _; rfl
  | succ k ih =>
    intro hk
    rw [sumT, sumT, take_get (show k < m by omega), ih (by omega)]
theorem take_prevD {l : List Use} {m k : Nat} (hk : k ≤ m) : prevD (l.take m) k = prevD l k := by
  cases k with
  | zero => rfl
  | succ k => show ((l.take m).getD k Use.zero).day = _; rw [take_get (by omega)]; rfl
theorem take_usesTo {n : Nat} {l : List Use} {m k : Nat} (hk : k ≤ m) (h : usesTo n l k = true) : usesTo n (l.take m) k = true := by
  unfold usesTo at *
  rw [List.all_eq_true] at *
  intro i hi
  have hi' := List.mem_range.1 hi
  rw [take_prevD (by omega), take_get (by omega)]
  exact h i hi
theorem usesTo_le {n : Nat} {l : List Use} {k j : Nat} (hj : j ≤ k) (h : usesTo n l k = true) : usesTo n l j = true := by
  unfold usesTo at *
  rw [List.all_eq_true] at *
  intro i hi
  have hi' := List.mem_range.1 hi
  exact h i (List.mem_range.2 (by omega))
theorem checkP_of {p : Part} {l : List Use} (h : PartOk p l) : checkP p l = 0 := by
  unfold checkP
  rw [if_pos h.hdr, if_pos h.rates, if_pos h.len, if_pos h.uses]
theorem take_ok {p : Part} {l : List Use} (h : PartOk p l) {m : Nat} (hm : m ≤ l.length) : PartOk p (l.take m) := by
  have e : (l.take m).length = m := by rw [List.length_take]; omega
  refine ⟨h.hdr, h.rates, ?_, ?_⟩
  · have := h.len; omega
  · rw [e]; exact take_usesTo (Nat.le_refl _) (usesTo_le hm h.uses)
theorem grown_le {p : Part} {l : List Use} (h : PartOk p l) {k : Nat} (hk : k < l.length) : (grownS p (l.getD k Use.zero)).1 ≤ (grownS p (l.getD k Use.zero)).2 := by
  have hu := h.use hk
  unfold useOk at hu
  simp only [decide_eq_true_eq] at hu
  have hr := h.rate (k := (l.getD k Use.zero).cls.toNat) (by omega)
  unfold rateOk at hr
  simp only [decide_eq_true_eq] at hr
  unfold grownS
  exact Int.mul_le_mul_of_nonneg_left hr.2.1 (by omega)
/-- Where nothing is measured behind use k, the wear there is what was known before. -/
theorem wear_free {p : Part} {l : List Use} (h : PartOk p l) {k : Nat} (hk : k < l.length) (hf : ∀ j, k < j → j < l.length → (l.getD j Use.zero).meas = false) : wearAt p l k = fwd p l (k + 1) := by
  have key : ∀ d, d < l.length → (∀ j, l.length - 1 - d < j → j < l.length → (l.getD j Use.zero).meas = false) → bkw p l d = fwd p l (l.length - d) := by
    intro d
    induction d with
    | zero => intro _ _; rfl
    | succ d ih =>
      intro hd hf
      have h1 := ih (by omega) fun j h1 h2 => hf j (by omega) h2
      have h2 : (l.getD (l.length - 1 - d) Use.zero).meas = false := hf _ (by omega) (by omega)
      have h3 := grown_le h (show l.length - 1 - d < l.length by omega)
      have e1 : l.length - d = (l.length - 1 - d) + 1 := by omega
      have e2 : l.length - (d + 1) = l.length - 1 - d := by omega
      rw [bkw, h1, e1, e2, fwd_not h2]
      unfold meetS addS
      refine Prod.ext ?_ ?_
      · dsimp only; omega
      · dsimp only; omega
  unfold wearAt
  rw [key (l.length - 1 - k) (by omega) (fun j h1 h2 => hf j (by omega) h2)]
  congr 1
  omega
theorem take_wear {p : Part} {l : List Use} (h : PartOk p l) {m : Nat} (hm : m ≤ l.length) (hf : ∀ j, m ≤ j → j < l.length → (l.getD j Use.zero).meas = false) : ∀ d k, k + d + 1 = m → wearAt p (l.take m) k = wearAt p l k := by
  have e : (l.take m).length = m := by rw [List.length_take]; omega
  intro d
  induction d with
  | zero =>
    intro k hk
    rw [wear_free h (by omega) (fun j h1 h2 => hf j (by omega) h2), wear_free (take_ok h hm) (by omega) (fun j h1 h2 => by omega), take_fwd _ (by omega)]
  | succ d ih =>
    intro k hk
    have h1 := ih (k + 1) (by omega)
    rw [wearAt_step (l := l.take m) (by omega), wearAt_step (l := l) (by omega), h1, take_fwd _ (by omega), take_get (by omega)]
theorem take_worn {p : Part} {l : List Use} {m k : Nat} (hk : k < m) (a : Int) : wornB p (l.take m) k a = wornB p l k a := by
  unfold wornB
  rw [take_sumT _ (by omega), take_get hk]
end Go.Proofs.Ytopmadlgolnmfaa
