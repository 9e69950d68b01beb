/- Parts and uses, plain: the first use of a kind, what is worn, what is refuted. -/
import Derived.Test.YtopmadlgolnmfaaF1
namespace Go.Proofs.Ytopmadlgolnmfaa
set_option linter.unusedVariables false
set_option linter.unusedSimpArgs false
open Go.RowKit

/-- The first number below n of a kind; -1: none. -/
def firstO (b : Nat → Bool) (n : Nat) : Int := match (List.range n).find? b with
  | some k => (k : Int)
  | none => -1
theorem firstO_at {b : Nat → Bool} {n k : Nat} (hk : k < n) (hb : b k = true) (h : ∀ q, q < k → b q = false) : firstO b n = k := by
  unfold firstO
  have e : (List.range n).find? b = some k := by
    rw [List.find?_eq_some_iff_append]
    refine ⟨hb, List.range k, (List.range (n - k - 1)).map (k + 1 + ·), ?_, fun a ha => ?_⟩
    · have e1 : n = k + ((n - k - 1) + 1) := by omega
      conv => lhs; rw [e1, List.range_add]
      rw [List.range_succ_eq_map]
      simp only [List.map_cons, Nat.add_zero, List.map_map]
      congr 2
      refine List.map_congr_left fun a _ => ?_
      simp only [Function.comp]
      omega
    · rw [h a (List.mem_range.1 ha)]; rfl
  rw [e]
theorem firstO_none {b : Nat → Bool} {n : Nat} (h : ∀ q, q < n → b q = false) : firstO b n = -1 := by
  unfold firstO
  have e : (List.range n).find? b = none := by
    rw [List.find?_eq_none]
    intro a ha
    rw [h a (List.mem_range.1 ha)]; simp
  rw [e]
theorem least_or (b : Nat → Bool) : ∀ n, (∃ k, k < n ∧ b k = true ∧ ∀ q, q < k → b q = false) ∨ ∀ q, q < n → b q = false := by
  intro n
  induction n with
  | zero => exact .inr fun q hq => absurd hq (Nat.not_lt_zero _)
  | succ n ih =>
    rcases ih with ⟨k, h1, h2, h3⟩ | h
    · exact .inl ⟨k, by omega, h2, h3⟩
    · cases hb : b n
      · refine .inr fun q hq => ?_
        by_cases e : q = n
        · subst e; exact hb
        · exact h q (by omega)
      · exact .inl ⟨n, by omega, hb, h⟩
theorem firstO_cases (b : Nat → Bool) (n : Nat) : (firstO b n = -1 ∧ ∀ q, q < n → b q = false) ∨ ∃ k, k < n ∧ firstO b n = k ∧ b k = true ∧ ∀ q, q < k → b q = false := by
  rcases least_or b n with ⟨k, h1, h2, h3⟩ | h
  · exact .inr ⟨k, h1, firstO_at h1 h2 h3, h2, h3⟩
  · exact .inl ⟨firstO_none h, h⟩
theorem fits_upto {p : Part} {l : List Use} : ∀ m, m ≤ l.length → (∀ k, k < m → fits p l k) ∨ ∃ n, n < m ∧ IsAt p l n := by
  classical
  intro m
  induction m with
  | zero => intro _; exact .inl fun k hk => absurd hk (Nat.not_lt_zero _)
  | succ m ih =>
    intro hm
    rcases ih (by omega) with h | ⟨n, hn, h⟩
    · by_cases hf : fits p l m
      · refine .inl fun k hk => ?_
        by_cases e : k = m
        · subst e; exact hf
        · exact h k (by omega)
      · exact .inr ⟨m, by omega, by omega, h, fun _ => hf⟩
    · exact .inr ⟨n, by omega, h⟩
theorem at_is (p : Part) (l : List Use) : ∃ n, IsAt p l n := by
  rcases fits_upto (p := p) l.length (Nat.le_refl _) with h | ⟨n, _, h⟩
  · exact ⟨l.length, Nat.le_refl _, h, fun h => absurd h (Nat.lt_irrefl _)⟩
  · exact ⟨n, h⟩
/-- The first use by which there is no history. -/
noncomputable def atN (p : Part) (l : List Use) : Nat := Classical.choose (at_is p l)
theorem atN_is (p : Part) (l : List Use) : IsAt p l (atN p l) := Classical.choose_spec (at_is p l)
theorem atN_eq {p : Part} {l : List Use} {n : Nat} (h : IsAt p l n) : atN p l = n := (atN_is p l).same h
theorem atN_all {p : Part} {l : List Use} : IsAt p l l.length ↔ atN p l = l.length := ⟨atN_eq, fun h => by have := atN_is p l; rw [h] at this; exact this⟩

/-- As long as there is a history, a span is one. -/
theorem fwd_le {p : Part} {l : List Use} (h : PartOk p l) : ∀ k, k ≤ l.length → (∀ q, q < k → fits p l q) → (fwd p l k).1 ≤ (fwd p l k).2 := by
  intro k
  induction k with
  | zero => intro _ _; exact Int.le_refl _
  | succ k ih =>
    intro hk hf
    have h1 := ih (by omega) fun q hq => hf q (by omega)
    by_cases hm : (l.getD k Use.zero).meas = true
    · exact hf k (by omega) hm
    · have hu := h.use (show k < l.length by omega)
      unfold useOk at hu
      simp only [decide_eq_true_eq] at hu
      have hr := h.rate (k := (l.getD k Use.zero).cls.toNat) (by omega)
      unfold rateOk at hr
      simp only [decide_eq_true_eq] at hr
      rw [fwd, if_neg hm]
      unfold addS grownS
      have := Int.mul_le_mul_of_nonneg_left hr.2.1 (show 0 ≤ (l.getD k Use.zero).turns by omega)
      dsimp only
      omega
/-- One use more. -/
def fstep (p : Part) (s : Int × Int) (u : Use) : Int × Int := if u.meas then meetS (addS s (grownS p u)) (u.lo, u.hi) else addS s (grownS p u)
theorem fits_iff {p : Part} {l : List Use} (h : PartOk p l) {k : Nat} (hk : k < l.length) (hf : ∀ q, q < k → fits p l q) : fits p l k ↔ (fwd p l (k + 1)).1 ≤ (fwd p l (k + 1)).2 :=
  ⟨fun h' => fwd_le h (k + 1) (by omega) fun q hq => by
    by_cases e : q = k
    · subst e; exact h'
    · exact hf q (by omega), fun h' _ => h'⟩

open Classical in
/-- The error of Wear. -/
noncomputable def wearE (p : Part) (l : List Use) : Int := if checkP p l ≠ 0 then checkP p l else if IsAt p l l.length then 0 else 3
theorem wearE_bad {p : Part} {l : List Use} (h : checkP p l ≠ 0) : wearE p l = checkP p l := by unfold wearE; rw [if_pos h]
theorem wearE_none {p : Part} {l : List Use} (h : checkP p l = 0) (h' : ¬ IsAt p l l.length) : wearE p l = 3 := by unfold wearE; rw [if_neg (by omega), if_neg h']
theorem wearE_ok {p : Part} {l : List Use} (h : checkP p l = 0) (h' : IsAt p l l.length) : wearE p l = 0 := by unfold wearE; rw [if_neg (by omega), if_pos h']
theorem wearE_zero {p : Part} {l : List Use} (h : wearE p l = 0) : checkP p l = 0 ∧ IsAt p l l.length := by
  unfold wearE at h
  split at h
  · exact absurd h (by assumption)
  · split at h
    · exact ⟨by omega, by assumption⟩
    · omega
/-- Refuted. -/
noncomputable def refO (p : Part) (l : List Use) : Int × Bool × Int := if checkP p l ≠ 0 then (0, false, checkP p l) else if atN p l < l.length then ((atN p l : Int), true, 0) else (0, false, 0)
/-- Is the part beyond its life behind use k, with a wear? -/
def wornB (p : Part) (l : List Use) (k : Nat) (wr : Int) : Bool := (decide (p.turns < sumT l (k + 1)) || decide (p.age < (l.getD k Use.zero).day)) || decide (p.worn * 1000000 < wr)
/-- Beyond, Surely. -/
noncomputable def beyondO (p : Part) (l : List Use) (e : Int × Int → Int) : Int × Int := if wearE p l ≠ 0 then (0, wearE p l) else (firstO (fun k => wornB p l k (e (wearAt p l k))) l.length, 0)
/-! ## histories -/
theorem by_ok {p : Part} {l : List Use} (e : Int × Int → Int) (h : wearE p l = 0) : beyondO p l e = (firstO (fun k => wornB p l k (e (wearAt p l k))) l.length, 0) := by
  unfold beyondO
  rw [if_neg (by omega)]
end Go.Proofs.Ytopmadlgolnmfaa
