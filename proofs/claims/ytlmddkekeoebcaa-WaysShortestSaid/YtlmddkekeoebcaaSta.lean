/- Chapter 8: which stations are valid. -/
import Derived.Test.YtlmddkekeoebcaaLay
import Derived.Test.YtlmddkekeoebcaaMap
namespace Go.Proofs.Ytlmddkekeoebcaa
set_option linter.unusedVariables false
set_option linter.unusedSimpArgs false
open Go.RowKit

def allN (p : Nat → Bool) : Nat → Bool
  | 0 => true
  | n + 1 => allN p n && p n
theorem allN_iff {p : Nat → Bool} : ∀ {n : Nat}, allN p n = true ↔ ∀ k, k < n → p k = true := by
  intro n
  induction n with
  | zero => exact ⟨fun _ k hk => absurd hk (Nat.not_lt_zero k), fun _ => rfl⟩
  | succ n ih =>
    simp only [allN, Bool.and_eq_true, ih]
    constructor
    · rintro ⟨h1, h2⟩ k hk
      by_cases e : k = n
      · subst e; exact h2
      · exact h1 k (by omega)
    · intro h
      exact ⟨fun k hk => h k (by omega), h n (by omega)⟩
theorem allN_step {p : Nat → Bool} {n : Nat} (h : allN p n = true) (hp : p n = true) : allN p (n + 1) = true := by simp only [allN, h, hp]; rfl
theorem allN_false {p : Nat → Bool} {n k : Nat} (hk : k < n) (h : p k = false) : allN p n = false := by
  cases ha : allN p n with
  | false => rfl
  | true => rw [allN_iff.1 ha k hk] at h; cases h

def psgOk (P : Int) (p : Psg) : Bool := decide (0 ≤ p.a ∧ p.a < P ∧ 0 ≤ p.b ∧ p.b < P ∧ p.a ≠ p.b ∧ 1 ≤ p.ticks ∧ p.ticks ≤ 20 ∧ 1 ≤ p.wide ∧ p.wide ≤ 50 ∧
  ((p.kind = 1 ∨ p.kind = 2 ∨ p.kind = 5) ∧ p.mach = -1 ∧ p.still = 0 ∨ p.kind = 3 ∧ (0 ≤ p.mach ∧ p.mach ≤ 11) ∧ (1 ≤ p.still ∧ p.still ≤ 20) ∨ p.kind = 4 ∧ (0 ≤ p.mach ∧ p.mach ≤ 11) ∧ p.still = 0))
def machAt (ps : List Psg) (k : Nat) : Int := (ps.getD k Psg.zero).mach
/-- How many of the first passages have a machine. -/
def cntM (ps : List Psg) (m : Int) (k : Nat) : Int := sm (fun j => if machAt ps j = m then 1 else 0) k
theorem cntM_nn {ps : List Psg} {m : Int} {k : Nat} : 0 ≤ cntM ps m k := sm_nonneg fun i _ => by split <;> omega
theorem cntM_le {ps : List Psg} {m : Int} : ∀ k, cntM ps m k ≤ k := by
  intro k
  induction k with
  | zero => exact Int.le_refl 0
  | succ k ih => unfold cntM at ih ⊢; rw [sm]; split <;> omega
theorem cntM_zero {ps : List Psg} {m : Int} {k : Nat} : cntM ps m k = 0 ↔ ∀ j, j < k → machAt ps j ≠ m := by
  constructor
  · intro h j hj e
    have := sm_eq_zero (f := fun j => if machAt ps j = m then 1 else 0) (fun i _ => by split <;> omega) h j hj
    simp [e] at this
  · intro h
    exact sm_zero fun i hi => if_neg (h i hi)
def pasOk (P : Int) (ps : List Psg) (k : Nat) : Bool := psgOk P (ps.getD k Psg.zero) && decide (machAt ps k < 0 ∨ cntM ps (machAt ps k) k = 0)
def exOk (P : Int) (xs : List Int) (k : Nat) : Bool := decide (0 ≤ xs.getD k 0 ∧ xs.getD k 0 < P ∧ (k = 0 ∨ xs.getD (k - 1) 0 < xs.getD k 0))
def stOk (P : Int) (ps : List Psg) (xs : List Int) : Bool := (decide (1 ≤ P ∧ P ≤ 10 ∧ ps.length ≤ 24) && allN (pasOk P ps) ps.length) && allN (exOk P xs) xs.length
def stE (P : Int) (ps : List Psg) (xs : List Int) : Int := if stOk P ps xs = true then 0 else 80
theorem st_size {P : Int} {ps : List Psg} {xs : List Int} (h : ¬ (1 ≤ P ∧ P ≤ 10 ∧ ps.length ≤ 24)) : stE P ps xs = 80 := by
  unfold stE stOk; rw [decide_eq_false h]; rfl
theorem st_pas {P : Int} {ps : List Psg} {xs : List Int} {k : Nat} (hk : k < ps.length) (h : pasOk P ps k = false) : stE P ps xs = 80 := by
  unfold stE stOk; rw [allN_false hk h, Bool.and_false]; rfl
theorem st_ex {P : Int} {ps : List Psg} {xs : List Int} {k : Nat} (hk : k < xs.length) (h : exOk P xs k = false) : stE P ps xs = 80 := by
  unfold stE stOk; rw [allN_false hk h, Bool.and_false]; rfl
theorem st_ok {P : Int} {ps : List Psg} {xs : List Int} (h1 : 1 ≤ P ∧ P ≤ 10 ∧ ps.length ≤ 24) (h2 : allN (pasOk P ps) ps.length = true) (h3 : allN (exOk P xs) xs.length = true) : stE P ps xs = 0 := by
  unfold stE stOk; rw [decide_eq_true h1, h2, h3]; rfl
theorem stE_iff {P : Int} {ps : List Psg} {xs : List Int} : stE P ps xs = 0 ↔ stOk P ps xs = true := by
  unfold stE; split <;> simp [*]
theorem stE_two {P : Int} {ps : List Psg} {xs : List Int} : stE P ps xs = 0 ∨ stE P ps xs = 80 := by
  unfold stE; split
  · exact .inl rfl
  · exact .inr rfl
/-- A map of how many passages have which machine. -/
def CntMap (ps : List Psg) (k : Nat) (l : List (Int × Value)) : Prop := ∀ m : Int, (getL l m).getD (.int .i64 0) = .int .i64 (cntM ps m k)
theorem CntMap.nil (ps : List Psg) : CntMap ps 0 [] := fun m => rfl
theorem CntMap.step {ps : List Psg} {k : Nat} {l : List (Int × Value)} (h : CntMap ps k l) : CntMap ps (k + 1) (setL l (machAt ps k) (.int .i64 (cntM ps (machAt ps k) k + 1))) := by
  intro m
  rw [getL_set]
  unfold cntM
  rw [sm]
  by_cases e : m = machAt ps k
  · subst e; rw [if_pos rfl, if_pos rfl]; rfl
  · rw [if_neg e, if_neg (fun h => e h.symm), Int.add_zero]; exact h m
/-- What holds in a valid station. -/
structure StV (P : Int) (ps : List Psg) (xs : List Int) : Prop where
  size : 1 ≤ P ∧ P ≤ 10 ∧ ps.length ≤ 24
  pas : ∀ k, k < ps.length → psgOk P (ps.getD k Psg.zero) = true
  mach : ∀ k, k < ps.length → 0 ≤ machAt ps k → ∀ j, j < k → machAt ps j ≠ machAt ps k
  ex : ∀ k, k < xs.length → 0 ≤ xs.getD k 0 ∧ xs.getD k 0 < P ∧ (k = 0 ∨ xs.getD (k - 1) 0 < xs.getD k 0)
theorem st_valid {P : Int} {ps : List Psg} {xs : List Int} (h : stE P ps xs = 0) : StV P ps xs := by
  have h1 := stE_iff.1 h
  unfold stOk at h1
  simp only [Bool.and_eq_true, decide_eq_true_eq] at h1
  obtain ⟨⟨h1, h2⟩, h3⟩ := h1
  refine ⟨h1, fun k hk => ?_, fun k hk h0 => ?_, fun k hk => ?_⟩
  · have := allN_iff.1 h2 k hk
    unfold pasOk at this
    rw [Bool.and_eq_true] at this
    exact this.1
  · have := allN_iff.1 h2 k hk
    unfold pasOk at this
    simp only [Bool.and_eq_true, decide_eq_true_eq] at this
    exact cntM_zero.1 (by omega)
  · have := allN_iff.1 h3 k hk
    unfold exOk at this
    simpa using this
theorem psgOk_iff {P : Int} {p : Psg} : psgOk P p = true ↔ (0 ≤ p.a ∧ p.a < P ∧ 0 ≤ p.b ∧ p.b < P ∧ p.a ≠ p.b ∧ 1 ≤ p.ticks ∧ p.ticks ≤ 20 ∧ 1 ≤ p.wide ∧ p.wide ≤ 50 ∧
  ((p.kind = 1 ∨ p.kind = 2 ∨ p.kind = 5) ∧ p.mach = -1 ∧ p.still = 0 ∨ p.kind = 3 ∧ (0 ≤ p.mach ∧ p.mach ≤ 11) ∧ (1 ≤ p.still ∧ p.still ≤ 20) ∨ p.kind = 4 ∧ (0 ≤ p.mach ∧ p.mach ≤ 11) ∧ p.still = 0)) := by
  unfold psgOk; rw [decide_eq_true_eq]
theorem psgOk_not {P : Int} {p : Psg} (h : ¬ (0 ≤ p.a ∧ p.a < P ∧ 0 ≤ p.b ∧ p.b < P ∧ p.a ≠ p.b ∧ 1 ≤ p.ticks ∧ p.ticks ≤ 20 ∧ 1 ≤ p.wide ∧ p.wide ≤ 50 ∧
  ((p.kind = 1 ∨ p.kind = 2 ∨ p.kind = 5) ∧ p.mach = -1 ∧ p.still = 0 ∨ p.kind = 3 ∧ (0 ≤ p.mach ∧ p.mach ≤ 11) ∧ (1 ≤ p.still ∧ p.still ≤ 20) ∨ p.kind = 4 ∧ (0 ≤ p.mach ∧ p.mach ≤ 11) ∧ p.still = 0))) : psgOk P p = false := by
  unfold psgOk; exact decide_eq_false h
theorem hds_ok {P : Nat} {ps : List Psg} {xs : List Int} {out : Int} (h : StV P ps xs) : ∀ i, i < (hds out xs ps).length → HdOk P ((hds out xs ps).getD i Hd.zero) := by
  have key : ∀ n, n ≤ ps.length → ∀ x ∈ hdsTo out xs ps n, HdOk P x := by
    intro n
    induction n with
    | zero => intro _ x hx; cases hx
    | succ n ih =>
      intro hn x hx
      rcases List.mem_append.1 hx with hx | hx
      · exact ih (by omega) x hx
      · have hp := psgOk_iff.1 (h.pas n (by omega))
        have ht : 1 ≤ hdTicks out (ps.getD n Psg.zero) ∧ hdTicks out (ps.getD n Psg.zero) ≤ 20 := by
          unfold hdTicks; split <;> omega
        unfold hdsOf hdsA hdsB at hx
        unfold HdOk
        split at hx
        · cases hx
        · rcases List.mem_append.1 hx with hx | hx
          · split at hx
            · cases hx
            · rw [List.mem_singleton.1 hx]; dsimp only; omega
          · split at hx
            · rw [List.mem_singleton.1 hx]; dsimp only; omega
            · cases hx
  intro i hi
  rw [List.getD_eq_getElem?_getD, List.getElem?_eq_getElem hi]
  exact key _ (Nat.le_refl _) _ (List.getElem_mem hi)
/-- People: how many at each place. -/
def crowdOk (P : Int) (pe : List Int) : Bool := allN (fun k => decide (0 ≤ pe.getD k 0 ∧ pe.getD k 0 ≤ 1000)) pe.length && decide ((pe.length : Int) = P)
/-- The error of a station, a set of machines, people and ticks. -/
def leaveE (P : Int) (ps : List Psg) (xs : List Int) (out : Int) (pe : List Int) (T : Int) : Int :=
  if stE P ps xs ≠ 0 then stE P ps xs else if (decide (0 ≤ out ∧ out ≤ 4095) && crowdOk P pe && decide (0 ≤ T ∧ T ≤ 60)) = true then 0 else 1
theorem leaveE_ok {P : Int} {ps : List Psg} {xs : List Int} {out : Int} {pe : List Int} {T : Int} (h : leaveE P ps xs out pe T = 0) : stE P ps xs = 0 ∧ (0 ≤ out ∧ out ≤ 4095) ∧ crowdOk P pe = true ∧ (0 ≤ T ∧ T ≤ 60) := by
  unfold leaveE at h
  split at h
  · omega
  · rename_i h1
    split at h
    · rename_i h2
      simp only [Bool.and_eq_true, decide_eq_true_eq] at h2
      exact ⟨by omega, h2.1.1, h2.1.2, h2.2⟩
    · cases h
theorem crowd_ok {P : Int} {pe : List Int} (h : crowdOk P pe = true) : (∀ k, k < pe.length → 0 ≤ pe.getD k 0 ∧ pe.getD k 0 ≤ 1000) ∧ (pe.length : Int) = P := by
  unfold crowdOk at h
  simp only [Bool.and_eq_true, decide_eq_true_eq] at h
  exact ⟨fun k hk => by simpa using allN_iff.1 h.1 k hk, h.2⟩
end Go.Proofs.Ytlmddkekeoebcaa
