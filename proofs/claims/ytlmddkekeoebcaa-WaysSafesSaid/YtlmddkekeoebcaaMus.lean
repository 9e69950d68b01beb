/- Chapter 8: the hours in which everybody can be out in time, and the escalators that must not be out, too. -/
import Derived.Test.YtlmddkekeoebcaaE4
import Derived.Test.YtlmddkekeoebcaaE5
namespace Go.Proofs.Ytlmddkekeoebcaa
set_option linter.unusedVariables false
set_option linter.unusedSimpArgs false
open Go.RowKit

/-- Whether everybody can be out. -/
noncomputable def allB (P T : Nat) (ps : List Psg) (xs : List Int) (out : Int) (pe : List Int) : Bool := decide (mfv P T pe xs (hds out xs ps) = sumI pe pe.length)
noncomputable def safeN (P T : Nat) (ps : List Psg) (xs : List Int) (day : List Hq) : Nat := fstB (fun k => !allB P T ps xs (day.getD k Hq.zero).out (day.getD k Hq.zero).pe) day.length
/-- The hour, whether everybody can be out in all, the error. -/
noncomputable def safeV (pl : Int) (ps : List Psg) (xs : List Int) (day : List Hq) (T0 : Int) : Int × Bool × Int :=
  if dayE pl ps xs day ≠ 0 then (0, false, dayE pl ps xs day) else if ¬ (0 ≤ T0 ∧ T0 ≤ 60) then (0, false, 1)
  else if safeN pl.toNat T0.toNat ps xs day < day.length then ((safeN pl.toNat T0.toNat ps xs day : Int), false, 0) else (0, true, 0)
section
variable {P T : Nat} {ps : List Psg} {xs : List Int} {day : List Hq} {h : Nat}
theorem safe_err {pl T0 : Int} (he : dayE pl ps xs day ≠ 0) : safeV pl ps xs day T0 = (0, false, dayE pl ps xs day) := by unfold safeV; rw [if_pos he]
theorem safe_arg {pl T0 : Int} (he : dayE pl ps xs day = 0) (hT : ¬ (0 ≤ T0 ∧ T0 ≤ 60)) : safeV pl ps xs day T0 = (0, false, 1) := by unfold safeV; rw [if_neg (by omega), if_pos hT]
theorem safe_at (he : dayE P ps xs day = 0) (hT : T ≤ 60) (hh : h < day.length) (h1 : ∀ q, q < h → allB P T ps xs (day.getD q Hq.zero).out (day.getD q Hq.zero).pe = true) (h2 : allB P T ps xs (day.getD h Hq.zero).out (day.getD h Hq.zero).pe = false) : safeV P ps xs day T = ((h : Int), false, 0) := by
  have e2 : safeN P T ps xs day = h := fst_at (fun q hq => by rw [h1 q hq]; rfl) (by rw [h2]; rfl) hh
  unfold safeV
  rw [if_neg (by omega), if_neg (by omega), Int.toNat_natCast, Int.toNat_natCast, e2, if_pos hh]
theorem safe_all (he : dayE P ps xs day = 0) (hT : T ≤ 60) (h1 : ∀ q, q < day.length → allB P T ps xs (day.getD q Hq.zero).out (day.getD q Hq.zero).pe = true) : safeV P ps xs day T = (0, true, 0) := by
  have e2 : safeN P T ps xs day = day.length := fst_none (fun q hq => by rw [h1 q hq]; rfl)
  unfold safeV
  rw [if_neg (by omega), if_neg (by omega), Int.toNat_natCast, Int.toNat_natCast, e2, if_neg (by omega)]
theorem safe_next {f : Nat → Bool} (h1 : ∀ q, q < h → f q = true) (h2 : f h = true) : ∀ q, q < h + 1 → f q = true := fun q hq => by
  by_cases e : q = h
  · subst e; exact h2
  · exact h1 q (by omega)
end

/-! ## the escalators -/
noncomputable def mustB (P T : Nat) (ps : List Psg) (xs : List Int) (out : Int) (pe : List Int) (m : Nat) : Bool := !allB P T ps xs (out + 2 ^ m) pe
/-- In ascending order, as the document has them. -/
noncomputable def mustL (P T : Nat) (ps : List Psg) (xs : List Int) (out : Int) (pe : List Int) : List Nat := (machL ps out 3 12).filter (mustB P T ps xs out pe)
/-- In the order of the passages, as the program finds them. -/
def movB (ps : List Psg) (out : Int) (f : Nat → Bool) (k : Nat) : Bool := (decide ((ps.getD k Psg.zero).kind = 3) && decide (out / 2 ^ (machAt ps k).toNat % 2 = 0)) && f (machAt ps k).toNat
def mustP (ps : List Psg) (out : Int) (f : Nat → Bool) : Nat → List Nat
  | 0 => []
  | k + 1 => mustP ps out f k ++ (if movB ps out f k = true then [(machAt ps k).toNat] else [])
section
variable {P : Nat} {ps : List Psg} {xs : List Int} {out : Int} {f : Nat → Bool}
theorem mustP_len : ∀ k, (mustP ps out f k).length ≤ k := by
  intro k
  induction k with
  | zero => exact Nat.le_refl 0
  | succ k ih => rw [mustP, List.length_append]; split <;> simp <;> omega
theorem mustP_yes {k : Nat} {wl : List Nat} (h : wl = mustP ps out f k) (hb : movB ps out f k = true) : wl ++ [(machAt ps k).toNat] = mustP ps out f (k + 1) := by rw [mustP, if_pos hb, h]
theorem mustP_no {k : Nat} {wl : List Nat} (h : wl = mustP ps out f k) (hb : movB ps out f k = false) : wl = mustP ps out f (k + 1) := by rw [mustP, if_neg (by rw [hb]; simp), h, List.append_nil]
theorem movB_iff {k : Nat} : movB ps out f k = true ↔ ((ps.getD k Psg.zero).kind = 3 ∧ out / 2 ^ (machAt ps k).toNat % 2 = 0) ∧ f (machAt ps k).toNat = true := by
  unfold movB; simp only [Bool.and_eq_true, decide_eq_true_eq]
theorem mov_mach (V : StV P ps xs) {k : Nat} (hk : k < ps.length) (h : (ps.getD k Psg.zero).kind = 3) : 0 ≤ machAt ps k ∧ machAt ps k ≤ 11 := by
  have := psgOk_iff.1 (V.pas k hk)
  unfold machAt
  omega
theorem mustP_in : ∀ (n x : Nat), x ∈ mustP ps out f n ↔ ∃ k, k < n ∧ movB ps out f k = true ∧ x = (machAt ps k).toNat := by
  intro n
  induction n with
  | zero => intro x; constructor
            · intro h; cases h
            · rintro ⟨k, hk, _⟩; omega
  | succ n ih =>
    intro x
    rw [mustP, List.mem_append, ih]
    constructor
    · rintro (⟨k, hk, h⟩ | h)
      · exact ⟨k, by omega, h⟩
      · split at h
        · rename_i hb
          exact ⟨n, by omega, hb, by simpa using h⟩
        · cases h
    · rintro ⟨k, hk, hb, hx⟩
      by_cases e : k = n
      · subst e; right; rw [if_pos hb]; simpa using hx
      · exact .inl ⟨k, by omega, hb, hx⟩
theorem mustP_nodup (V : StV P ps xs) : ∀ n, n ≤ ps.length → (mustP ps out f n).Nodup := by
  intro n
  induction n with
  | zero => intro _; exact List.nodup_nil
  | succ n ih =>
    intro hn
    rw [mustP]
    by_cases hb : movB ps out f n = true
    · rw [if_pos hb, List.nodup_append]
      refine ⟨ih (by omega), by simp, fun a ha b hb2 e => ?_⟩
      rw [mustP_in] at ha
      obtain ⟨k, hk, hbk, hx⟩ := ha
      rw [List.mem_singleton] at hb2
      have h1 := mov_mach V (by omega) (movB_iff.1 hb).1.1
      have h2 := mov_mach V (by omega) (movB_iff.1 hbk).1.1
      exact V.mach n (by omega) h1.1 k hk (by omega)
    · rw [if_neg hb, List.append_nil]; exact ih (by omega)
theorem machL_mem : ∀ (n x : Nat), x ∈ machL ps out 3 n ↔ x < n ∧ ∃ i, i < ps.length ∧ machB ps out 3 x i = true := by
  have hR : ∀ (m n x : Nat), x ∈ machR ps out 3 m n ↔ x = m ∧ ∃ i, i < n ∧ machB ps out 3 m i = true := by
    intro m n
    induction n with
    | zero => intro x; constructor
              · intro h; cases h
              · rintro ⟨_, i, hi, _⟩; omega
    | succ n ih =>
      intro x
      rw [machR, List.mem_append, ih]
      constructor
      · rintro (⟨h1, i, hi, h⟩ | h)
        · exact ⟨h1, i, by omega, h⟩
        · split at h
          · rename_i hb
            exact ⟨by simpa using h, n, by omega, hb⟩
          · cases h
      · rintro ⟨h1, i, hi, hb⟩
        by_cases e : i = n
        · subst e; right; rw [if_pos hb]; simpa using h1
        · exact .inl ⟨h1, i, by omega, hb⟩
  intro n
  induction n with
  | zero => intro x; constructor
            · intro h; cases h
            · rintro ⟨h, _⟩; omega
  | succ n ih =>
    intro x
    rw [machL, List.mem_append, ih, hR]
    constructor
    · rintro (⟨h1, h⟩ | ⟨h1, h⟩)
      · exact ⟨by omega, h⟩
      · subst h1; exact ⟨by omega, h⟩
    · rintro ⟨h1, h⟩
      by_cases e : x = n
      · subst e; exact .inr ⟨rfl, h⟩
      · exact .inl ⟨by omega, h⟩
theorem machB_iff {m i : Nat} : machB ps out 3 m i = true ↔ ((ps.getD i Psg.zero).kind = 3 ∧ machAt ps i = (m : Int)) ∧ out / 2 ^ m % 2 = 0 := by
  unfold machB machAt
  simp only [Bool.and_eq_true, decide_eq_true_eq, Bool.not_eq_true', decide_eq_false_iff_not]
  have : out / 2 ^ m % 2 = 0 ∨ out / 2 ^ m % 2 = 1 := by omega
  constructor
  · rintro ⟨h1, h2⟩; exact ⟨h1, by omega⟩
  · rintro ⟨h1, h2⟩; exact ⟨h1, by omega⟩
theorem machL_asc (V : StV P ps xs) : ∀ n, (machL ps out 3 n).Pairwise (· < ·) := by
  intro n
  induction n with
  | zero => exact List.Pairwise.nil
  | succ n ih =>
    rw [machL, List.pairwise_append]
    have hr : machR ps out 3 n ps.length = [] ∨ machR ps out 3 n ps.length = [n] := by
      by_cases h : ∃ i, i < ps.length ∧ machB ps out 3 n i = true
      · obtain ⟨i, hi, hb⟩ := h
        right
        refine machR_one hb hi fun j hj hji => ?_
        cases hbj : machB ps out 3 n j
        · rfl
        · exfalso
          have h1 := (machB_iff.1 hb).1.2
          have h2 := (machB_iff.1 hbj).1.2
          rcases Nat.lt_or_gt_of_ne hji with h | h
          · exact V.mach i hi (by omega) j h (by omega)
          · exact V.mach j hj (by omega) i h (by omega)
      · left
        refine machR_nil fun i hi => ?_
        cases hb : machB ps out 3 n i
        · rfl
        · exact absurd ⟨i, hi, hb⟩ h
    refine ⟨ih, ?_, fun a ha b hb => ?_⟩
    · rcases hr with h | h <;> rw [h] <;> simp
    · have h1 := (machL_mem n a).1 ha
      rcases hr with h | h <;> rw [h] at hb
      · cases hb
      · rw [List.mem_singleton] at hb; omega
theorem must_perm (V : StV P ps xs) : (mustP ps out f ps.length).Perm ((machL ps out 3 12).filter f) := by
  refine (List.perm_ext_iff_of_nodup (mustP_nodup V _ (Nat.le_refl _)) ?_).2 fun x => ?_
  · exact ((machL_asc V 12).filter _).imp (fun h => Nat.ne_of_lt h)
  · rw [mustP_in, List.mem_filter, machL_mem]
    constructor
    · rintro ⟨k, hk, hb, rfl⟩
      obtain ⟨⟨h1, h2⟩, h3⟩ := movB_iff.1 hb
      have h4 := mov_mach V hk h1
      exact ⟨⟨by omega, k, hk, machB_iff.2 ⟨⟨h1, by omega⟩, h2⟩⟩, h3⟩
    · rintro ⟨⟨h1, i, hi, hb⟩, h3⟩
      obtain ⟨⟨h4, h5⟩, h6⟩ := machB_iff.1 hb
      have e : (machAt ps i).toNat = x := by omega
      exact ⟨i, hi, movB_iff.2 ⟨⟨h4, by rw [e]; exact h6⟩, by rw [e]; exact h3⟩, e.symm⟩
/-- The program sorts; the document searches in order. -/
theorem must_sort (V : StV P ps xs) : (toI (mustP ps out f ps.length)).mergeSort (fun x y => decide (x ≤ y)) = toI ((machL ps out 3 12).filter f) := by
  refine List.Perm.eq_of_pairwise (le := fun x y => decide (x ≤ y) = true) (fun a b _ _ h1 h2 => ?_) ?_ ?_ ?_
  · have h1 := of_decide_eq_true h1; have h2 := of_decide_eq_true h2; omega
  · exact List.pairwise_mergeSort (fun a b c h1 h2 => by have h1 := of_decide_eq_true h1; have h2 := of_decide_eq_true h2; exact decide_eq_true (by omega)) (fun a b => by simp only [Bool.or_eq_true, decide_eq_true_eq]; omega) _
  · unfold toI
    rw [List.pairwise_map]
    exact ((machL_asc V 12).filter _).imp (fun {a b} h => decide_eq_true (by omega))
  · exact (List.mergeSort_perm _ _).trans ((must_perm V).map _)
end
noncomputable def mustV (pl : Int) (ps : List Psg) (xs : List Int) (out : Int) (pe : List Int) (T0 : Int) : List Int × Int :=
  if leaveE pl ps xs out pe T0 ≠ 0 then ([], leaveE pl ps xs out pe T0) else if allB pl.toNat T0.toNat ps xs out pe = true then (toI (mustL pl.toNat T0.toNat ps xs out pe), 0) else ([], 3)
theorem must_err {pl : Int} {ps : List Psg} {xs : List Int} {out : Int} {pe : List Int} {T0 : Int} (h : leaveE pl ps xs out pe T0 ≠ 0) : mustV pl ps xs out pe T0 = ([], leaveE pl ps xs out pe T0) := by unfold mustV; rw [if_pos h]
theorem must_none {P T : Nat} {ps : List Psg} {xs : List Int} {out : Int} {pe : List Int} (h : leaveE P ps xs out pe T = 0) (ha : ¬ mfv P T pe xs (hds out xs ps) = sumI pe pe.length) : mustV P ps xs out pe T = ([], 3) := by
  unfold mustV allB; rw [if_neg (by omega), Int.toNat_natCast, Int.toNat_natCast, if_neg (by rw [decide_eq_false ha]; simp)]
theorem must_some {P T : Nat} {ps : List Psg} {xs : List Int} {out : Int} {pe : List Int} (h : leaveE P ps xs out pe T = 0) (ha : mfv P T pe xs (hds out xs ps) = sumI pe pe.length) : mustV P ps xs out pe T = (toI (mustL P T ps xs out pe), 0) := by
  unfold mustV allB; rw [if_neg (by omega), Int.toNat_natCast, Int.toNat_natCast, if_pos (decide_eq_true ha)]
end Go.Proofs.Ytlmddkekeoebcaa
