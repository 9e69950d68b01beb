/- Chapter 8: barriers and their bounds. -/
import Derived.Test.YtlmddkekeoebcaaRfc
namespace Go.Proofs.Ytlmddkekeoebcaa
set_option linter.unusedVariables false
set_option linter.unusedSimpArgs false

def barAt (T : Int) (xs bl : List Int) (k : Nat) : Bool := decide (0 ≤ bl.getD k 0 ∧ bl.getD k 0 ≤ T + 1) && (!hasI xs k || decide (bl.getD k 0 = T + 1))
def barOk (P T : Int) (xs bl : List Int) : Bool := decide ((bl.length : Int) = P) && allN (barAt T xs bl) bl.length
/-- The nodes on this side of a barrier. -/
def barU (bl : List Int) (p t : Nat) : Bool := decide (bl.getD p 0 ≤ (t : Int))
def bndV (P T : Nat) (ps : List Psg) (xs : List Int) (out : Int) (pe bl : List Int) : Int := begC (barU bl) pe P + headC (barU bl) T xs out ps
def boundV (pl : Int) (ps : List Psg) (xs : List Int) (out : Int) (pe : List Int) (T0 : Int) (bl : List Int) : Int × Int :=
  if leaveE pl ps xs out pe T0 ≠ 0 then (0, leaveE pl ps xs out pe T0) else if barOk pl T0 xs bl = true then (bndV pl.toNat T0.toNat ps xs out pe bl, 0) else (0, 1)
section
variable {P T : Nat} {ps : List Psg} {xs : List Int} {out : Int} {pe bl : List Int} {k : Nat}
theorem bar_len {P T : Int} (h : ¬ (bl.length : Int) = P) : barOk P T xs bl = false := by unfold barOk; rw [decide_eq_false h]; rfl
theorem bar_bad {P T : Int} (hk : k < bl.length) (h : barAt T xs bl k = false) : barOk P T xs bl = false := by unfold barOk; rw [allN_false hk h, Bool.and_false]
theorem bar_all {P T : Int} (hl : (bl.length : Int) = P) (h : allN (barAt T xs bl) bl.length = true) : barOk P T xs bl = true := by unfold barOk; rw [decide_eq_true hl, h]; rfl
theorem barAt_t {T : Int} (h : (0 ≤ bl.getD k 0 ∧ bl.getD k 0 ≤ T + 1) ∧ (hasI xs k = true → bl.getD k 0 = T + 1)) : barAt T xs bl k = true := by
  unfold barAt
  rw [decide_eq_true h.1]
  cases hx : hasI xs k with
  | false => rfl
  | true => rw [decide_eq_true (h.2 hx)]; rfl
theorem barAt_f {T : Int} (h : ¬ (0 ≤ bl.getD k 0 ∧ bl.getD k 0 ≤ T + 1) ∨ (hasI xs k = true ∧ ¬ bl.getD k 0 = T + 1)) : barAt T xs bl k = false := by
  unfold barAt
  rcases h with h | h
  · rw [decide_eq_false h]; rfl
  · rw [h.1, decide_eq_false h.2]; simp
theorem barOk_ok {P T : Int} (h : barOk P T xs bl = true) : (bl.length : Int) = P ∧ ∀ k, k < bl.length → (0 ≤ bl.getD k 0 ∧ bl.getD k 0 ≤ T + 1) ∧ (hasI xs k = true → bl.getD k 0 = T + 1) := by
  unfold barOk at h
  simp only [Bool.and_eq_true, decide_eq_true_eq] at h
  refine ⟨h.1, fun k hk => ?_⟩
  have h2 := allN_iff.1 h.2 k hk
  unfold barAt at h2
  simp only [Bool.and_eq_true, decide_eq_true_eq, Bool.or_eq_true, Bool.not_eq_true'] at h2
  exact ⟨h2.1, fun hx => h2.2.resolve_left (by rw [hx]; simp)⟩
theorem bound_err {pl : Int} {T0 : Int} (h : leaveE pl ps xs out pe T0 ≠ 0) : boundV pl ps xs out pe T0 bl = (0, leaveE pl ps xs out pe T0) := by unfold boundV; rw [if_pos h]
theorem bound_bad {pl : Int} {T0 : Int} (h : leaveE pl ps xs out pe T0 = 0) (hb : barOk pl T0 xs bl = false) : boundV pl ps xs out pe T0 bl = (0, 1) := by unfold boundV; rw [if_neg (by omega), if_neg (by rw [hb]; simp)]
theorem bound_ok (h : leaveE P ps xs out pe T = 0) (hb : barOk P T xs bl = true) : boundV P ps xs out pe T bl = (bndV P T ps xs out pe bl, 0) := by unfold boundV; rw [if_neg (by omega), if_pos hb, Int.toNat_natCast, Int.toNat_natCast]
theorem beg_next : begC (barU bl) pe (k + 1) = begC (barU bl) pe k + if 0 < bl.getD k 0 then pe.getD k 0 else 0 := by
  show begC (barU bl) pe k + (if decide (bl.getD k 0 ≤ ((0 : Nat) : Int)) = false then pe.getD k 0 else 0) = _
  congr 1
  by_cases h : 0 < bl.getD k 0
  · rw [if_pos h, if_pos (decide_eq_false (by omega))]
  · rw [if_neg h, if_neg (fun h2 => by have := of_decide_eq_false h2; omega)]
theorem sm_tail {f : Nat → Int} {m : Nat} : ∀ {n : Nat}, m ≤ n → (∀ t, m ≤ t → t < n → f t = 0) → sm f n = sm f m := by
  intro n
  induction n with
  | zero => intro h _; have : m = 0 := by omega
            subst this; rfl
  | succ n ih =>
    intro h h2
    by_cases e : m = n + 1
    · subst e; rfl
    · rw [sm, ih (by omega) (fun t h3 h4 => h2 t h3 (by omega)), h2 n (by omega) (by omega), Int.add_zero]
/-- One direction's ticks, from the barrier on. -/
theorem hC_before {f t : Nat} {d c : Int} {m : Nat} (h : (m : Int) ≤ bl.getD f 0) : sm (hC (barU bl) T f t d c) m = 0 := sm_zero fun q hq => by
  unfold hC barU
  exact if_neg fun h2 => by have := of_decide_eq_true h2.2.1; omega
theorem hC_behind {f t : Nat} {d c : Int} {m : Nat} (hm : m ≤ T + 1) (h : (T : Int) < m + d) : sm (hC (barU bl) T f t d c) (T + 1) = sm (hC (barU bl) T f t d c) m := sm_tail hm fun q h1 h2 => by
  unfold hC
  exact if_neg fun h3 => by have := h3.1; omega
theorem hC_next {f t : Nat} {d c : Int} {m : Nat} (hd : 0 ≤ d) (h1 : (m : Int) + d ≤ T) (h2 : bl.getD f 0 ≤ (m : Int)) : sm (hC (barU bl) T f t d c) (m + 1) = sm (hC (barU bl) T f t d c) m + if (m : Int) + d < bl.getD t 0 then c else 0 := by
  show sm (hC (barU bl) T f t d c) m + _ = _
  congr 1
  unfold hC barU
  by_cases h : (m : Int) + d < bl.getD t 0
  · rw [if_pos h, if_pos ⟨h1, decide_eq_true h2, decide_eq_false (by omega)⟩]
  · rw [if_neg h, if_neg]
    rintro ⟨_, _, h3⟩
    have := of_decide_eq_false h3
    omega
theorem hC_bd {U : Nat → Nat → Bool} {f t : Nat} {d c : Int} (hc : 0 ≤ c ∧ c ≤ 50) {m : Nat} : 0 ≤ sm (hC U T f t d c) m ∧ sm (hC U T f t d c) m ≤ 50 * m := by
  constructor
  · exact sm_nonneg fun q _ => by unfold hC; split <;> omega
  · have : ∀ n, sm (hC U T f t d c) n ≤ 50 * n := by
      intro n
      induction n with
      | zero => exact Int.le_refl 0
      | succ n ih =>
        have h1 : hC U T f t d c n ≤ 50 := by unfold hC; split <;> omega
        show sm (hC U T f t d c) n + _ ≤ _
        omega
    exact this m
theorem hdC_take {U : Nat → Nat → Bool} {l : List Hd} {i : Nat} (hi : i < l.length) : hdC U T (l.take (i + 1)) = hdC U T (l.take i) + sm (hC U T (l.getD i Hd.zero).fr.toNat (l.getD i Hd.zero).to.toNat (l.getD i Hd.zero).ticks (l.getD i Hd.zero).wide) (T + 1) := by
  rw [List.take_succ_eq_append_getElem hi, hdC_append, List.getD_eq_getElem?_getD, List.getElem?_eq_getElem hi]
  simp [hdC]
theorem hdC_bd {U : Nat → Nat → Bool} {l : List Hd} (hw : ∀ i, i < l.length → 1 ≤ (l.getD i Hd.zero).wide ∧ (l.getD i Hd.zero).wide ≤ 50) (hT : T ≤ 60) : ∀ i, i ≤ l.length → 0 ≤ hdC U T (l.take i) ∧ hdC U T (l.take i) ≤ 3050 * i := by
  intro i
  induction i with
  | zero => intro _; exact ⟨Int.le_refl 0, Int.le_refl 0⟩
  | succ i ih =>
    intro hi
    have h1 := ih (by omega)
    have h2 := hw i (by omega)
    have h3 := hC_bd (T := T) (U := U) (f := (l.getD i Hd.zero).fr.toNat) (t := (l.getD i Hd.zero).to.toNat) (d := (l.getD i Hd.zero).ticks) (c := (l.getD i Hd.zero).wide) (by omega) (m := T + 1)
    rw [hdC_take (by omega)]
    omega
theorem begC_bd {U : Nat → Nat → Bool} (hpp : ∀ k, k < pe.length → 0 ≤ pe.getD k 0 ∧ pe.getD k 0 ≤ 1000) : ∀ n, 0 ≤ begC U pe n ∧ begC U pe n ≤ 1000 * n := by
  intro n
  induction n with
  | zero => exact ⟨Int.le_refl 0, Int.le_refl 0⟩
  | succ n ih =>
    have h1 : 0 ≤ pe.getD n 0 ∧ pe.getD n 0 ≤ 1000 := by
      by_cases h : n < pe.length
      · exact hpp n h
      · rw [List.getD_eq_getElem?_getD, List.getElem?_eq_none (by omega)]; simp
    have h2 : begC U pe (n + 1) = begC U pe n + (if U n 0 = false then pe.getD n 0 else 0) := rfl
    rw [h2]
    split <;> omega
/-- The directions of the document, with a barrier. -/
theorem pC_bar (V : StV P ps xs) (hb : ∀ p, p < P → hasI xs p = true → bl.getD p 0 = (T : Int) + 1) {i : Nat} (hi : i < ps.length) {t k : Nat} (ht : t ≤ T) : pC (barU bl) T xs out (ps.getD i Psg.zero) t k =
    if ((0 ≤ goneI out (ps.getD i Psg.zero) (endI (ps.getD i Psg.zero) k) ∧ bl.getD (endI (ps.getD i Psg.zero) k).toNat 0 ≤ (t : Int)) ∧ (t : Int) + goneI out (ps.getD i Psg.zero) (endI (ps.getD i Psg.zero) k) ≤ T) ∧ (t : Int) + goneI out (ps.getD i Psg.zero) (endI (ps.getD i Psg.zero) k) < bl.getD (endI (ps.getD i Psg.zero) (1 - k)).toNat 0 then (ps.getD i Psg.zero).wide else 0 := by
  have hp := psgOk_iff.1 (V.pas i hi)
  have e : 0 ≤ endI (ps.getD i Psg.zero) k ∧ endI (ps.getD i Psg.zero) k < P := by unfold endI; split <;> omega
  unfold pC hC barU
  by_cases h1 : ((0 ≤ goneI out (ps.getD i Psg.zero) (endI (ps.getD i Psg.zero) k) ∧ bl.getD (endI (ps.getD i Psg.zero) k).toNat 0 ≤ (t : Int)) ∧ (t : Int) + goneI out (ps.getD i Psg.zero) (endI (ps.getD i Psg.zero) k) ≤ T) ∧ (t : Int) + goneI out (ps.getD i Psg.zero) (endI (ps.getD i Psg.zero) k) < bl.getD (endI (ps.getD i Psg.zero) (1 - k)).toNat 0
  · have hx : hasI xs (endI (ps.getD i Psg.zero) k) = false := by
      cases hx : hasI xs (endI (ps.getD i Psg.zero) k) with
      | false => rfl
      | true =>
        have := hb (endI (ps.getD i Psg.zero) k).toNat (by omega) (by rw [Int.toNat_of_nonneg e.1]; exact hx)
        omega
    rw [if_pos h1, if_pos ⟨h1.1.1.1, hx⟩, if_pos ⟨h1.1.2, decide_eq_true h1.1.1.2, decide_eq_false (by have := h1.2; push_cast; omega)⟩]
  · rw [if_neg h1]
    split
    · rename_i h2
      rw [if_neg]
      rintro ⟨h3, h4, h5⟩
      have h4 := of_decide_eq_true h4
      have h5 := of_decide_eq_false h5
      apply h1
      push_cast at h5
      exact ⟨⟨⟨h2.1, h4⟩, h3⟩, by omega⟩
    · rfl
end
end Go.Proofs.Ytlmddkekeoebcaa
