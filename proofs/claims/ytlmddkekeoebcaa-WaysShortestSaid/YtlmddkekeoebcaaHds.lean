/- The directions in which people who leave can go along the passages. -/
import Derived.Test.YtlmddkekeoebcaaWyD
namespace Go.Proofs.Ytlmddkekeoebcaa
set_option linter.unusedVariables false
set_option linter.unusedSimpArgs false
open Go.RowKit

def hasI (l : List Int) (x : Int) : Bool := l.any fun y => decide (x = y)
structure Hd where
  pas : Int
  fr : Int
  to : Int
  ticks : Int
  wide : Int
def Hd.zero : Hd := ⟨0, 0, 0, 0, 0⟩
def Hd.cells (h : Hd) : List Value := [.int .i64 h.pas, .int .i64 h.fr, .int .i64 h.to, .int .i64 h.ticks, .int .i64 h.wide]
/-- Whether a machine is out. -/
def bitI (out m : Int) : Int := out / 2 ^ m.toNat % 2
def hdTicks (out : Int) (p : Psg) : Int := if p.kind = 3 ∧ ¬ bitI out p.mach = 0 then p.still else p.ticks
def hdBack (out : Int) (p : Psg) : Bool := !(decide (p.kind = 3) && decide (bitI out p.mach = 0))
theorem hdBack_f {out : Int} {p : Psg} (h : p.kind = 3 ∧ out / 2 ^ p.mach.toNat % 2 = 0) : false = hdBack out p := by unfold hdBack bitI; rw [decide_eq_true h.1, decide_eq_true h.2]; rfl
theorem hdBack_t {out : Int} {p : Psg} (h : ¬ p.kind = 3 ∨ ¬ out / 2 ^ p.mach.toNat % 2 = 0) : true = hdBack out p := by
  unfold hdBack bitI
  rcases h with h | h
  · rw [decide_eq_false h]; rfl
  · rw [decide_eq_false h, Bool.and_false]; rfl
def hdsA (out : Int) (xs : List Int) (k : Nat) (p : Psg) : List Hd := if hasI xs p.a = true then [] else [⟨k, p.a, p.b, hdTicks out p, p.wide⟩]
def hdsB (out : Int) (xs : List Int) (k : Nat) (p : Psg) : List Hd := if (hdBack out p && !hasI xs p.b) = true then [⟨k, p.b, p.a, hdTicks out p, p.wide⟩] else []
def hdsOf (out : Int) (xs : List Int) (k : Nat) (p : Psg) : List Hd := if p.kind = 4 then [] else hdsA out xs k p ++ hdsB out xs k p
def hdsTo (out : Int) (xs : List Int) (ps : List Psg) : Nat → List Hd
  | 0 => []
  | k + 1 => hdsTo out xs ps k ++ hdsOf out xs k (ps.getD k Psg.zero)
def hds (out : Int) (xs : List Int) (ps : List Psg) : List Hd := hdsTo out xs ps ps.length
section
variable {out : Int} {xs : List Int} {ps : List Psg} {k : Nat}
theorem hds_pre : ∀ {n k : Nat}, k ≤ n → ∃ t, hdsTo out xs ps n = hdsTo out xs ps k ++ t := by
  intro n
  induction n with
  | zero => intro k hk; have : k = 0 := by omega
            subst this; exact ⟨[], by simp⟩
  | succ n ih =>
    intro k hk
    by_cases e : k = n + 1
    · subst e; exact ⟨[], by simp⟩
    · obtain ⟨t, ht⟩ := ih (k := k) (by omega)
      exact ⟨t ++ hdsOf out xs n (ps.getD n Psg.zero), by rw [hdsTo, ht, List.append_assoc]⟩
theorem hds_at (hk : k < ps.length) {j : Nat} {h : Hd} (hj : (hdsOf out xs k (ps.getD k Psg.zero))[j]? = some h) : (hds out xs ps).getD ((hdsTo out xs ps k).length + j) Hd.zero = h ∧ (hdsTo out xs ps k).length + j < (hds out xs ps).length := by
  obtain ⟨t, ht⟩ := hds_pre (out := out) (xs := xs) (ps := ps) (n := ps.length) (k := k + 1) (by omega)
  have hjl := (List.getElem?_eq_some_iff.1 hj).1
  unfold hds
  rw [ht, hdsTo]
  refine ⟨?_, by simp only [List.length_append]; omega⟩
  rw [List.getD_eq_getElem?_getD, List.append_assoc, List.getElem?_append_right (by omega), List.getElem?_append_left (by omega), show (hdsTo out xs ps k).length + j - (hdsTo out xs ps k).length = j by omega, hj]
  rfl
/-- The first of a passage. -/
theorem hds_first (hk : k < ps.length) (h4 : ¬ (ps.getD k Psg.zero).kind = 4) (ha : hasI xs (ps.getD k Psg.zero).a = false) :
    (hds out xs ps).getD (hdsTo out xs ps k).length Hd.zero = ⟨k, (ps.getD k Psg.zero).a, (ps.getD k Psg.zero).b, hdTicks out (ps.getD k Psg.zero), (ps.getD k Psg.zero).wide⟩ ∧ (hdsTo out xs ps k).length < (hds out xs ps).length :=
  hds_at (out := out) (xs := xs) hk (j := 0) (by unfold hdsOf hdsA; rw [if_neg h4, if_neg (by rw [ha]; simp)]; rfl)
/-- How many come of its first direction. -/
def qA (xs : List Int) (p : Psg) : Nat := if hasI xs p.a = true then 0 else 1
def qB (out : Int) (xs : List Int) (p : Psg) : Nat := if (hdBack out p && !hasI xs p.b) = true then 1 else 0
theorem hds_second (hk : k < ps.length) (h4 : ¬ (ps.getD k Psg.zero).kind = 4) (hb : (hdBack out (ps.getD k Psg.zero) && !hasI xs (ps.getD k Psg.zero).b) = true) :
    (hds out xs ps).getD ((hdsTo out xs ps k).length + qA xs (ps.getD k Psg.zero)) Hd.zero = ⟨k, (ps.getD k Psg.zero).b, (ps.getD k Psg.zero).a, hdTicks out (ps.getD k Psg.zero), (ps.getD k Psg.zero).wide⟩ ∧ (hdsTo out xs ps k).length + qA xs (ps.getD k Psg.zero) < (hds out xs ps).length :=
  hds_at (out := out) (xs := xs) hk (j := qA xs (ps.getD k Psg.zero)) (by
    unfold hdsOf hdsA hdsB qA
    rw [if_neg h4, if_pos hb]
    by_cases h : hasI xs (ps.getD k Psg.zero).a = true
    · rw [if_pos h, if_pos h]; rfl
    · rw [if_neg h, if_neg h]; rfl)
theorem hds_len (h4 : ¬ (ps.getD k Psg.zero).kind = 4) : (hdsTo out xs ps (k + 1)).length = (hdsTo out xs ps k).length + qA xs (ps.getD k Psg.zero) + qB out xs (ps.getD k Psg.zero) := by
  rw [hdsTo, List.length_append]
  unfold hdsOf hdsA hdsB qA qB
  rw [if_neg h4, List.length_append]
  split <;> split <;> simp
theorem hds_len4 (h4 : (ps.getD k Psg.zero).kind = 4) : (hdsTo out xs ps (k + 1)).length = (hdsTo out xs ps k).length := by
  rw [hdsTo, List.length_append]
  unfold hdsOf
  rw [if_pos h4]
  rfl
theorem hds_le : ∀ k, (hdsTo out xs ps k).length ≤ 2 * k := by
  intro k
  induction k with
  | zero => simp [hdsTo]
  | succ k ih =>
    by_cases h4 : (ps.getD k Psg.zero).kind = 4
    · rw [hds_len4 h4]; omega
    · rw [hds_len h4]
      have h1 : qA xs (ps.getD k Psg.zero) ≤ 1 := by unfold qA; split <;> omega
      have h2 : qB out xs (ps.getD k Psg.zero) ≤ 1 := by unfold qB; split <;> omega
      omega
theorem bk3 (b h : Bool) : b = false ∨ (b = true ∧ h = true) ∨ (b = true ∧ h = false) := by cases b <;> cases h <;> simp
end
end Go.Proofs.Ytlmddkekeoebcaa
