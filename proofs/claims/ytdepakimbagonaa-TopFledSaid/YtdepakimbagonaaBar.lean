/- Chapter 8: barriers and their bounds. -/
import Derived.Test.YtdepakimbagonaaRfc
namespace Go.Proofs.Ytdepakimbagonaa
set_option linter.unusedVariables false
set_option linter.unusedSimpArgs false

def barAt (T : Int) (xs bl : List Int) (k : Nat) : Bool := decide (0 ≤ bl.getD k 0 ∧ bl.getD k 0 ≤ T + 1) && (!hasI xs k || decide (bl.getD k 0 = T + 1))
def barOk (P T : Int) (xs bl : List Int) : Bool := decide ((bl.length : Int) = P) && allN (barAt T xs bl) bl.length
/-- The nodes on this side of a barrier. -/
def barU (bl : List Int) (p t : Nat) : Bool := decide (bl.getD p 0 ≤ (t : Int))
def bndV (P T : Nat) (ps : List Psg) (xs : List Int) (out : Int) (pe bl : List Int) : Int := begC (barU bl) pe P + headC (barU bl) T xs out ps
section
variable {P T : Nat} {ps : List Psg} {xs : List Int} {out : Int} {pe bl : List Int} {k : Nat}
theorem bar_all {P T : Int} (hl : (bl.length : Int) = P) (h : allN (barAt T xs bl) bl.length = true) : barOk P T xs bl = true := by unfold barOk; rw [decide_eq_true hl, h]; rfl
theorem barAt_t {T : Int} (h : (0 ≤ bl.getD k 0 ∧ bl.getD k 0 ≤ T + 1) ∧ (hasI xs k = true → bl.getD k 0 = T + 1)) : barAt T xs bl k = true := by
  unfold barAt
  rw [decide_eq_true h.1]
  cases hx : hasI xs k with
  | false => rfl
  | true => rw [decide_eq_true (h.2 hx)]; rfl
theorem barOk_ok {P T : Int} (h : barOk P T xs bl = true) : (bl.length : Int) = P ∧ ∀ k, k < bl.length → (0 ≤ bl.getD k 0 ∧ bl.getD k 0 ≤ T + 1) ∧ (hasI xs k = true → bl.getD k 0 = T + 1) := by
  unfold barOk at h
  simp only [Bool.and_eq_true, decide_eq_true_eq] at h
  refine ⟨h.1, fun k hk => ?_⟩
  have h2 := allN_iff.1 h.2 k hk
  unfold barAt at h2
  simp only [Bool.and_eq_true, decide_eq_true_eq, Bool.or_eq_true, Bool.not_eq_true'] at h2
  exact ⟨h2.1, fun hx => h2.2.resolve_left (by rw [hx]; simp)⟩
/-- The directions of the document, with a barrier. -/
theorem pC_bar (V : StV P ps xs) (hb : ∀ p, p < P → hasI xs p = true → bl.getD p 0 = (T : Int) + 1) {i : Nat} (hi : i < ps.length) {t k : Nat} (ht : t ≤ T) : pC (barU bl) T xs out (ps.getD i Psg.zero) t k =
    if ((0 ≤ goneI out (ps.getD i Psg.zero) (endI (ps.getD i Psg.zero) k) ∧ bl.getD (endI (ps.getD i Psg.zero) k).toNat 0 ≤ (t : Int)) ∧ (t : Int) + goneI out (ps.getD i Psg.zero) (endI (ps.getD i Psg.zero) k) ≤ T) ∧ (t : Int) + goneI out (ps.getD i Psg.zero) (endI (ps.getD i Psg.zero) k) < bl.getD (endI (ps.getD i Psg.zero) (1 - k)).toNat 0 then (ps.getD i Psg.zero).wide else 0 := by
  have hp := psgOk_iff.1 (V.pas i hi)
  have e : 0 ≤ endI (ps.getD i Psg.zero) k ∧ endI (ps.getD i Psg.zero) k < P := by unfold endI; split <;> omega
  unfold pC hC barU
  by_cases h1 : ((0 ≤ goneI out (ps.getD i Psg.zero) (endI (ps.getD i Psg.zero) k) ∧ bl.getD (endI (ps.getD i Psg.zero) k).toNat 0 ≤ (t : Int)) ∧ (t : Int) + goneI out (ps.getD i Psg.zero) (endI (ps.getD i Psg.zero) k) ≤ T) ∧ (t : Int) + goneI out (ps.getD i Psg.zero) (endI (ps.getD i Psg.zero) k) < bl.getD (endI (ps.getD i Psg.zero) (1 - k)).toNat 0
  · have hx : hasI xs (endI (ps.getD i Psg.zero) k) = false := by
      cases hx : hasI xs (endI (ps.getD i Psg.zero) k) with
      | false => rfl
      | true =>
        have := hb (endI (ps.getD i Psg.zero) k).toNat (by omega) (by rw [Int.toNat_of_nonneg e.1]; exact hx)
        omega
    rw [if_pos h1, if_pos ⟨h1.1.1.1, hx⟩, if_pos ⟨h1.1.2, decide_eq_true h1.1.1.2, decide_eq_false (by have := h1.2; push_cast; omega)⟩]
  · rw [if_neg h1]
    split
    · rename_i h2
      rw [if_neg]
      rintro ⟨h3, h4, h5⟩
      have h4 := of_decide_eq_true h4
      have h5 := of_decide_eq_false h5
      apply h1
      push_cast at h5
      exact ⟨⟨⟨h2.1, h4⟩, h3⟩, by omega⟩
    · rfl
end
end Go.Proofs.Ytdepakimbagonaa
