/- Chapter 8: a way that somebody names, and the first way. Chapter 8: hours and promises. Chapter 8: the station of the examples. -/
import Derived.Test.YtopmadlgolnmfaaE4
namespace Go.Proofs.Ytopmadlgolnmfaa
set_option linter.unusedVariables false
set_option linter.unusedSimpArgs false

/-! ## a way that somebody names -/
section
variable {ps : List Psg} {out : Int} {help : Bool} {l : List Int} {a b : Int} {k : Nat} {s : Int × Int}
end
/-- Ways, one step longer at the end. -/
theorem Wk.snoc {ps : List Psg} {out : Int} {help : Bool} {a b n k c : Nat} {l : List Nat} (W : Wk ps out help a b n l) : k < ps.length → oth out help (ps.getD k Psg.zero) b = (c : Int) → 1 ≤ (ps.getD k Psg.zero).ticks → Wk ps out help a c (n + (ps.getD k Psg.zero).ticks.toNat) (l ++ [k]) := by
  induction W with
  | nil a =>
    intro hk ho ht
    have := Wk.cons hk ho (Wk.nil c)
    rw [Nat.zero_add]
    exact this
  | @cons a b c' n k' l' hk' ho' _ ih =>
    intro hk ho ht
    have := Wk.cons hk' ho' (ih hk ho ht)
    rw [Nat.add_assoc]
    exact this
/-! ## which list comes first -/
section
variable {P : Nat} {ps : List Psg} {xs : List Int} {out : Int} {help : Bool} {fr to : Nat} {l : List Int}
end
end Go.Proofs.Ytopmadlgolnmfaa

namespace Go.Proofs.Ytopmadlgolnmfaa
set_option linter.unusedVariables false
set_option linter.unusedSimpArgs false
open Go.RowKit

/-- An hour as it comes: with where its list of people lies. -/
structure Hr where
  out : Int
  help : Bool
  pe : List Int
  A : Option Addr
  c : Nat
def Hr.zero : Hr := ⟨0, false, [], none, 0⟩
def Hr.cell (h : Hr) : Nat → Value
  | 0 => .int .i64 h.out
  | 1 => .bool h.help
  | _ => .slice h.A h.pe.length h.c
/-- An hour without it. -/
structure Hq where
  out : Int
  help : Bool
  pe : List Int
def Hq.zero : Hq := ⟨0, false, []⟩
def Hr.q (h : Hr) : Hq := ⟨h.out, h.help, h.pe⟩
def hcl (l : List Hq) (DA : Nat → Option Addr) (dc : Nat → Nat) (k : Nat) : Nat → Value
  | 0 => .int .i64 (l.getD k Hq.zero).out
  | 1 => .bool (l.getD k Hq.zero).help
  | _ => .slice (DA k) (l.getD k Hq.zero).pe.length (dc k)
structure Prm where
  fr : Int
  to : Int
  first : Int
  last : Int
  helped : Bool
def Prm.zero : Prm := ⟨0, 0, 0, 0, false⟩
def Prm.cell (p : Prm) : Nat → Value
  | 0 => .int .i64 p.fr
  | 1 => .int .i64 p.to
  | 2 => .int .i64 p.first
  | 3 => .int .i64 p.last
  | _ => .bool p.helped
def prcell (l : List Prm) (k j : Nat) : Value := (l.getD k Prm.zero).cell j
def hqOk (pl : Int) (h : Hq) : Bool := decide (0 ≤ h.out ∧ h.out ≤ 4095) && crowdOk pl h.pe
def dayOk (pl : Int) (day : List Hq) : Bool := allN (fun k => hqOk pl (day.getD k Hq.zero)) day.length && decide (day.length ≤ 48)
def dayE (pl : Int) (ps : List Psg) (xs : List Int) (day : List Hq) : Int := if stE pl ps xs ≠ 0 then stE pl ps xs else if dayOk pl day = true then 0 else 81
def prmOk (pl : Int) (p : Prm) : Bool := decide (0 ≤ p.fr ∧ p.fr ≤ pl - 1 ∧ 0 ≤ p.to ∧ p.to ≤ pl - 1 ∧ 0 ≤ p.first ∧ p.first ≤ p.last ∧ p.last < 48)
def prsOk (pl : Int) (l : List Prm) : Bool := allN (fun k => prmOk pl (l.getD k Prm.zero)) l.length && decide (l.length ≤ 40)
def keptE (pl : Int) (ps : List Psg) (xs : List Int) (day : List Hq) (l : List Prm) : Int := if dayE pl ps xs day ≠ 0 then dayE pl ps xs day else if prsOk pl l = true then 0 else 82
theorem dayE_ok {pl : Int} {ps : List Psg} {xs : List Int} {day : List Hq} (h : dayE pl ps xs day = 0) : stE pl ps xs = 0 ∧ dayOk pl day = true := by
  unfold dayE at h
  split at h
  · omega
  · split at h
    · exact ⟨by omega, by assumption⟩
    · cases h
theorem dayOk_ok {pl : Int} {day : List Hq} (h : dayOk pl day = true) : day.length ≤ 48 ∧ ∀ k, k < day.length → (0 ≤ (day.getD k Hq.zero).out ∧ (day.getD k Hq.zero).out ≤ 4095) ∧ crowdOk pl (day.getD k Hq.zero).pe = true := by
  unfold dayOk at h
  simp only [Bool.and_eq_true, decide_eq_true_eq] at h
  refine ⟨h.2, fun k hk => ?_⟩
  have := allN_iff.1 h.1 k hk
  unfold hqOk at this
  simpa using this
theorem keptE_ok {pl : Int} {ps : List Psg} {xs : List Int} {day : List Hq} {l : List Prm} (h : keptE pl ps xs day l = 0) : dayE pl ps xs day = 0 ∧ l.length ≤ 40 ∧ ∀ k, k < l.length → prmOk pl (l.getD k Prm.zero) = true := by
  unfold keptE at h
  split at h
  · omega
  · split at h
    · rename_i h1 h2
      unfold prsOk at h2
      simp only [Bool.and_eq_true, decide_eq_true_eq] at h2
      exact ⟨by omega, h2.2, allN_iff.1 h2.1⟩
    · cases h
theorem prmOk_iff {pl : Int} {p : Prm} : prmOk pl p = true ↔ (0 ≤ p.fr ∧ p.fr ≤ pl - 1 ∧ 0 ≤ p.to ∧ p.to ≤ pl - 1 ∧ 0 ≤ p.first ∧ p.first ≤ p.last ∧ p.last < 48) := by unfold prmOk; rw [decide_eq_true_eq]
/-- Whether a promise is broken in an hour. -/
noncomputable def broken (P : Nat) (ps : List Psg) (h : Hq) (n : Nat) (p : Prm) : Bool := (decide (p.first ≤ (n : Int)) && decide ((n : Int) ≤ p.last)) && decide (dst P ps h.out (h.help && p.helped) p.to.toNat p.fr.toNat < 0)
noncomputable def brokeAt (P : Nat) (ps : List Psg) (day : List Hq) (l : List Prm) (h : Nat) : Nat := fstB (fun i => broken P ps (day.getD h Hq.zero) h (l.getD i Prm.zero)) l.length
noncomputable def brokeH (P : Nat) (ps : List Psg) (day : List Hq) (l : List Prm) : Nat := fstB (fun h => decide (brokeAt P ps day l h < l.length)) day.length
/-- The hour, the promise, whether all are kept, the error. -/
noncomputable def keptV (pl : Int) (ps : List Psg) (xs : List Int) (day : List Hq) (l : List Prm) : Int × Int × Bool × Int :=
  if keptE pl ps xs day l ≠ 0 then (0, 0, false, keptE pl ps xs day l)
  else if brokeH pl.toNat ps day l < day.length then ((brokeH pl.toNat ps day l : Int), (brokeAt pl.toNat ps day l (brokeH pl.toNat ps day l) : Int), false, 0) else (0, 0, true, 0)
section
variable {P : Nat} {ps : List Psg} {xs : List Int} {day : List Hq} {l : List Prm} {h i : Nat}
theorem kept_err {pl : Int} (he : keptE pl ps xs day l ≠ 0) : keptV pl ps xs day l = (0, 0, false, keptE pl ps xs day l) := by unfold keptV; rw [if_pos he]
theorem kept_at (he : keptE P ps xs day l = 0) (hh : h < day.length) (hi : i < l.length) (h1 : ∀ q, q < h → ∀ j, j < l.length → broken P ps (day.getD q Hq.zero) q (l.getD j Prm.zero) = false) (h2 : ∀ j, j < i → broken P ps (day.getD h Hq.zero) h (l.getD j Prm.zero) = false)
    (hb : broken P ps (day.getD h Hq.zero) h (l.getD i Prm.zero) = true) : keptV P ps xs day l = ((h : Int), (i : Int), false, 0) := by
  have e1 : brokeAt P ps day l h = i := fst_at h2 hb hi
  have e2 : brokeH P ps day l = h := fst_at (fun q hq => decide_eq_false (by unfold brokeAt; rw [fst_none (h1 q hq)]; omega)) (decide_eq_true (by rw [e1]; exact hi)) hh
  unfold keptV
  rw [if_neg (by omega), Int.toNat_natCast, e2, if_pos hh, e1]
theorem kept_all (he : keptE P ps xs day l = 0) (h1 : ∀ q, q < day.length → ∀ j, j < l.length → broken P ps (day.getD q Hq.zero) q (l.getD j Prm.zero) = false) : keptV P ps xs day l = (0, 0, true, 0) := by
  have e2 : brokeH P ps day l = day.length := fst_none (fun q hq => decide_eq_false (by unfold brokeAt; rw [fst_none (h1 q hq)]; omega))
  unfold keptV
  rw [if_neg (by omega), Int.toNat_natCast, e2, if_neg (by omega)]
theorem hqOk_not {pl : Int} {k : Nat} (hk : k < day.length) (hx : hqOk pl (day.getD k Hq.zero) = false) : dayOk pl day = false := by unfold dayOk; rw [allN_false hk hx]; rfl
theorem dayOk_of {pl : Int} (h1 : allN (fun k => hqOk pl (day.getD k Hq.zero)) day.length = true) : dayOk pl day = decide (day.length ≤ 48) := by unfold dayOk; rw [h1]; rfl
theorem broke_row (h1 : ∀ q, q < h → ∀ j, j < l.length → broken P ps (day.getD q Hq.zero) q (l.getD j Prm.zero) = false) (h2 : ∀ j, j < i → broken P ps (day.getD h Hq.zero) h (l.getD j Prm.zero) = false) (hi : l.length ≤ i) :
    ∀ q, q < h + 1 → ∀ j, j < l.length → broken P ps (day.getD q Hq.zero) q (l.getD j Prm.zero) = false := fun q hq j hj => by
  by_cases e : q = h
  · subst e; exact h2 j (by omega)
  · exact h1 q (by omega) j hj
theorem no_next {f : Nat → Bool} (h : ∀ j, j < i → f j = false) (hi : f i = false) : ∀ j, j < i + 1 → f j = false := fun j hj => by
  by_cases e : j = i
  · subst e; exact hi
  · exact h j (by omega)
end
/-! an hour's people in new memory -/
section
variable {w w0 : World} {F0 : Nat → Prop} {R : List Mem} {e sz i k : Nat} {A : Nat → Option Addr} {n c : Nat → Nat} {cell : Nat → Nat → Nat → Value}
theorem ragM.none (S : St w0 F0 R w) (e sz : Nat) (A : Nat → Option Addr) (n c : Nat → Nat) (cell : Nat → Nat → Nat → Value) : St w0 F0 (ragM e sz (fun q => q < 0) A n c cell :: R) w :=
  S.new (Keeps.refl _ _) ⟨fun q hq => absurd hq (Nat.not_lt_zero q), fun q _ hq => absurd hq (Nat.not_lt_zero q)⟩ (fun b ⟨q, hq, _⟩ => absurd hq (Nat.not_lt_zero q))
theorem ragM.add {A' : Option Addr} {n' c' : Nat} {cell' : Nat → Nat → Value} (S : St w0 F0 (ownM e sz A' n' c' cell' :: R) w) (hi : R[i]? = some (ragM e sz (fun q => q < k) A n c cell)) :
    St w0 F0 (R.set i (ragM e sz (fun q => q < k + 1) (upd A k A') (upd n k n') (upd c k c') (upd cell k cell'))) w := by
  have e1 : (fun q => q < k) = (fun q => q < k + 1 ∧ q ≠ k) := by funext q; exact propext ⟨fun h => by omega, fun h => by omega⟩
  rw [e1] at hi
  exact ragM.put (D := fun q => q < k + 1) S hi (by omega)
theorem ragM.recell {n' : Nat → Nat} {A' : Nat → Option Addr} {c' : Nat → Nat} {cell' : Nat → Nat → Nat → Value} {D : Nat → Prop} (S : St w0 F0 R w) (hi : R[i]? = some (ragM e sz D A n c cell)) (h : ∀ q, D q → A q = A' q ∧ n q = n' q ∧ c q = c' q ∧ cell q = cell' q) : St w0 F0 (R.set i (ragM e sz D A' n' c' cell')) w := by
  have hrow : ∀ q, D q → ownM e sz (A' q) (n' q) (c' q) (cell' q) = ownM e sz (A q) (n q) (c q) (cell q) := fun q hq => by obtain ⟨h1, h2, h3, h4⟩ := h q hq; rw [h1, h2, h3, h4]
  refine S.imp hi (fun ⟨h1, h2⟩ => ⟨fun q hq => by rw [hrow q hq]; exact h1 q hq, fun q r hq hr hqr b hb hb' => ?_⟩) ?_
  · rw [hrow q hq] at hb; rw [hrow r hr] at hb'; exact h2 q r hq hr hqr b hb hb'
  · rintro b ⟨q, hq, hb⟩; rw [hrow q hq] at hb; exact ⟨q, hq, hb⟩
end
end Go.Proofs.Ytopmadlgolnmfaa

namespace Go.Proofs.Ytopmadlgolnmfaa
set_option linter.unusedVariables false
set_option linter.unusedSimpArgs false
set_option maxRecDepth 100000

def w8exW : List Psg := [⟨0, 1, 2, 3, 2, -1, 0⟩, ⟨0, 1, 3, 2, 3, 0, 4⟩, ⟨0, 1, 4, 5, 1, 1, 0⟩, ⟨1, 2, 1, 1, 4, -1, 0⟩, ⟨2, 3, 5, 2, 1, -1, 0⟩]
def exX : List Int := [2]
def w8exP : List Int := [10, 0, 0, 0]
theorem exW_ok : stE 4 w8exW exX = 0 := by decide +kernel
theorem exV : StV ((4 : Nat) : Int) w8exW exX := st_valid exW_ok
/-! who leaves: the flow of seven, and what can still be reached -/
deriving instance DecidableEq for Mv
deriving instance DecidableEq for Ent
end Go.Proofs.Ytopmadlgolnmfaa
