/- ChBs. Printed by gen.py. -/
import Derived.Test.YtlejjfhgfajoiaaChV
import Derived.Test.YtlejjfhgfajoiaaGrd
namespace Go.Proofs.Ytlejjfhgfajoiaa
open Go.RowKit
set_option linter.unusedVariables false
set_option linter.unusedSimpArgs false


theorem Does.to {P : Program} {L : List (Nat × Value)} {o : Oper} {w : World} {v v' : Value} (h : Does P L o w v) (e : v = v') : Does P L o w v' := e ▸ h
theorem run_of {c : Chain} {l : List Gauge} {M : IM} {a b : Int} (h : wholeO c l true = .ok M) (hr : isRunB c a b = true) : runO c l a b = (-(M b.toNat a.toNat), M a.toNat b.toNat, 0) := by
  unfold runO
  rw [hr, h]
theorem run_bad {c : Chain} {l : List Gauge} {e a b : Int} (h : wholeO c l true = .error e) (hr : isRunB c a b = true) : runO c l a b = (0, 0, e) := by
  unfold runO
  rw [hr, h]
theorem check_app {c : Chain} {l : List Gauge} {g : Gauge} (h : checkE c (l ++ [g]) = 0) : checkE c l = 0 := by
  obtain ⟨h1, h2, h3⟩ := checkE_ok h
  simp only [List.length_append, List.length_cons, List.length_nil] at h2
  rw [List.all_append, Bool.and_eq_true] at h3
  unfold checkE
  rw [if_pos h1, if_pos (by omega), if_pos h3.1]
/-- With a gauge more: none; or a web within that of before. -/
theorem whole_app {c : Chain} {l : List Gauge} {g : Gauge} (h : checkE c (l ++ [g]) = 0) : wholeO c (l ++ [g]) true = .error 3 ∨ ∃ M M', wholeO c (l ++ [g]) true = .ok M' ∧ wholeO c l true = .ok M ∧ (∀ x y, M' x y ≤ M x y) ∧ Good c.n M ∧ Good c.n M' := by
  have h0 := check_app h
  cases hw : weaveW c (l ++ [g]) yes with
  | none => left; unfold wholeO; rw [if_neg (by omega), if_pos rfl, hw]
  | some M' =>
    right
    cases hl : weaveW c l yes with
    | none =>
      exfalso
      unfold weaveW at hw hl
      have h1 := gto_app (n := c.n) (g := g) (p := yes) (M := linksTo c c.links.toNat) l.length (Nat.le_refl _)
      rw [hl] at h1
      rw [gto_none h1 (l ++ [g]).length (by simp)] at hw
      cases hw
    | some M =>
      refine ⟨M, M', by unfold wholeO; rw [if_neg (by omega), if_pos rfl, hw], by unfold wholeO; rw [if_neg (by omega), if_pos rfl, hl], fun x y => ?_, weave_good h0 hl, weave_good h hw⟩
      rw [weave_app hl] at hw
      unfold gOne at hw
      split at hw
      · cases hw; exact tight_le _ _ _ _ _ _ _
      · cases hw


end Go.Proofs.Ytlejjfhgfajoiaa
