/- Parts and uses: the data, and what the program computes of them. -/
import Derived.Test.YtdfjdkhgdmndjaaLaw2
namespace Go.Proofs.Ytdfjdkhgdmndjaa
set_option linter.unusedVariables false
set_option linter.unusedSimpArgs false
open Go.RowKit

structure Use where
  day : Int
  turns : Int
  cls : Int
  meas : Bool
  lo : Int
  hi : Int
structure Part where
  rates : List (Int × Int)
  worn : Int
  turns : Int
  age : Int
def Use.zero : Use := ⟨0, 0, 0, false, 0, 0⟩
def Use.cell (u : Use) : Nat → Value
  | 0 => .int .i64 u.day
  | 1 => .int .i64 u.turns
  | 2 => .int .i64 u.cls
  | 3 => .bool u.meas
  | 4 => .int .i64 u.lo
  | _ => .int .i64 u.hi
def ucell (l : List Use) (k j : Nat) : Value := (l.getD k Use.zero).cell j
def scellOf (s : Int × Int) : Nat → Value
  | 0 => .int .i64 s.1
  | _ => .int .i64 s.2
/-- The cells of spans. -/
def scell (l : List (Int × Int)) (k j : Nat) : Value := scellOf (l.getD k (0, 0)) j
def fcell (f : Nat → Int × Int) (k j : Nat) : Value := scellOf (f k) j

def partHdr (p : Part) : Bool := decide (1 ≤ p.rates.length ∧ p.rates.length ≤ 4 ∧ 0 ≤ p.worn ∧ p.worn ≤ 1000 ∧ 0 ≤ p.turns ∧ p.turns ≤ 1000000 ∧ 0 ≤ p.age ∧ p.age ≤ 100000)
def rateOk (r : Int × Int) : Bool := decide (0 ≤ r.1 ∧ r.1 ≤ r.2 ∧ r.2 ≤ 1000000)
def useOk (n : Nat) (d : Int) (u : Use) : Bool := decide ((d ≤ u.day ∧ u.day ≤ 100000 ∧ 0 ≤ u.turns ∧ u.turns ≤ 1000000 ∧ 0 ≤ u.cls ∧ u.cls ≤ (n : Int) - 1) ∧ 0 ≤ u.lo ∧ u.lo ≤ u.hi ∧ u.hi ≤ 2000000000 ∧ (u.meas = false → u.lo = 0 ∧ u.hi = 0))
def prevD (l : List Use) : Nat → Int
  | 0 => 0
  | k + 1 => (l.getD k Use.zero).day
def usesTo (n : Nat) (l : List Use) (k : Nat) : Bool := (List.range k).all fun i => useOk n (prevD l i) (l.getD i Use.zero)
def checkP (p : Part) (l : List Use) : Int :=
  if partHdr p then (if p.rates.all rateOk then (if l.length ≤ 40 then (if usesTo p.rates.length l l.length then 0 else 23) else 23) else 22) else 22

structure PartOk (p : Part) (l : List Use) : Prop where
  hdr : partHdr p = true
  rates : p.rates.all rateOk = true
  len : l.length ≤ 40
  uses : usesTo p.rates.length l l.length = true

theorem checkP_ok {p : Part} {l : List Use} (h : checkP p l = 0) : PartOk p l := by
  unfold checkP at h
  split at h
  · split at h
    · split at h
      · split at h
        · exact ⟨by assumption, by assumption, by assumption, by assumption⟩
        · cases h
      · cases h
    · cases h
  · cases h
theorem PartOk.use {p : Part} {l : List Use} (h : PartOk p l) {k : Nat} (hk : k < l.length) : useOk p.rates.length (prevD l k) (l.getD k Use.zero) = true := by
  have := h.uses
  unfold usesTo at this
  exact List.all_eq_true.1 this k (List.mem_range.2 hk)
theorem PartOk.rate {p : Part} {l : List Use} (h : PartOk p l) {k : Nat} (hk : k < p.rates.length) : rateOk (p.rates.getD k (0, 0)) = true := by
  rw [List.getD_eq_getElem?_getD, List.getElem?_eq_getElem hk]
  exact List.all_eq_true.1 h.rates _ (List.getElem_mem hk)

def grownS (p : Part) (u : Use) : Int × Int := (u.turns * (p.rates.getD u.cls.toNat (0, 0)).1, u.turns * (p.rates.getD u.cls.toNat (0, 0)).2)
def meetS (a b : Int × Int) : Int × Int := (max a.1 b.1, min a.2 b.2)
def addS (a b : Int × Int) : Int × Int := (a.1 + b.1, a.2 + b.2)
/-- The wear behind use k - 1 by what was before. -/
def fwd (p : Part) (l : List Use) : Nat → Int × Int
  | 0 => (0, 0)
  | k + 1 => if (l.getD k Use.zero).meas then meetS (addS (fwd p l k) (grownS p (l.getD k Use.zero))) ((l.getD k Use.zero).lo, (l.getD k Use.zero).hi) else addS (fwd p l k) (grownS p (l.getD k Use.zero))
def fits (p : Part) (l : List Use) (k : Nat) : Prop := (l.getD k Use.zero).meas = true → (fwd p l (k + 1)).1 ≤ (fwd p l (k + 1)).2
/-- n is the first use by which there is no history, or the number of uses. -/
structure IsAt (p : Part) (l : List Use) (n : Nat) : Prop where
  le : n ≤ l.length
  good : ∀ k, k < n → fits p l k
  bad : n < l.length → ¬ fits p l n
theorem IsAt.same {p : Part} {l : List Use} {n m : Nat} (h : IsAt p l n) (h' : IsAt p l m) : n = m := by
  rcases Nat.lt_trichotomy n m with h1 | h1 | h1
  · exact absurd (h'.good n h1) (h.bad (by have := h'.le; omega))
  · exact h1
  · exact absurd (h.good m h1) (h'.bad (by have := h.le; omega))
def bkw (p : Part) (l : List Use) : Nat → Int × Int
  | 0 => fwd p l l.length
  | d + 1 => meetS (fwd p l (l.length - 1 - d)) ((bkw p l d).1 - (grownS p (l.getD (l.length - 1 - d) Use.zero)).2, (bkw p l d).2 - (grownS p (l.getD (l.length - 1 - d) Use.zero)).1)
/-- The wear behind use k by all uses. -/
def wearAt (p : Part) (l : List Use) (k : Nat) : Int × Int := bkw p l (l.length - 1 - k)

theorem grown_bd {p : Part} {l : List Use} (h : PartOk p l) {k : Nat} (hk : k < l.length) : 0 ≤ (grownS p (l.getD k Use.zero)).1 ∧ (grownS p (l.getD k Use.zero)).1 ≤ 1000000000000 ∧ 0 ≤ (grownS p (l.getD k Use.zero)).2 ∧ (grownS p (l.getD k Use.zero)).2 ≤ 1000000000000 := by
  have hu := h.use hk
  unfold useOk at hu
  simp only [decide_eq_true_eq] at hu
  have hr := h.rate (k := (l.getD k Use.zero).cls.toNat) (by omega)
  unfold rateOk at hr
  simp only [decide_eq_true_eq] at hr
  unfold grownS
  refine ⟨Int.mul_nonneg (by omega) (by omega), ?_, Int.mul_nonneg (by omega) (by omega), ?_⟩
  · exact Int.le_trans (Int.mul_le_mul (c := 1000000) (d := 1000000) (by omega) (by omega) (by omega) (by omega)) (by decide)
  · exact Int.le_trans (Int.mul_le_mul (c := 1000000) (d := 1000000) (by omega) (by omega) (by omega) (by omega)) (by decide)
theorem fwd_bd {p : Part} {l : List Use} (h : PartOk p l) : ∀ k, k ≤ l.length → 0 ≤ (fwd p l k).1 ∧ (fwd p l k).1 ≤ (k : Int) * 1000000000000 ∧ 0 ≤ (fwd p l k).2 ∧ (fwd p l k).2 ≤ (k : Int) * 1000000000000 := by
  intro k
  induction k with
  | zero => intro _; simp [fwd]
  | succ k ih =>
    intro hk
    have h1 := ih (by omega)
    have h2 := grown_bd h (show k < l.length by omega)
    have hu := h.use (show k < l.length by omega)
    unfold useOk at hu
    simp only [decide_eq_true_eq] at hu
    unfold fwd addS meetS
    split <;> (dsimp only; omega)
theorem bkw_bd {p : Part} {l : List Use} (h : PartOk p l) : ∀ d, d < l.length → -((d : Int) * 1000000000000) ≤ (bkw p l d).1 ∧ (bkw p l d).1 ≤ 40000000000000 ∧ -((d : Int) * 1000000000000) ≤ (bkw p l d).2 ∧ (bkw p l d).2 ≤ 40000000000000 := by
  intro d
  have hlen := h.len
  induction d with
  | zero => intro hd; have := fwd_bd h l.length (Nat.le_refl _); unfold bkw; omega
  | succ d ih =>
    intro hd
    have h1 := ih (by omega)
    have h2 := grown_bd h (show l.length - 1 - d < l.length by omega)
    have h3 := fwd_bd h (l.length - 1 - d) (by omega)
    unfold bkw meetS
    dsimp only
    omega

def sumT (l : List Use) : Nat → Int
  | 0 => 0
  | k + 1 => sumT l k + (l.getD k Use.zero).turns
theorem sumT_bd {p : Part} {l : List Use} (h : PartOk p l) : ∀ k, k ≤ l.length → 0 ≤ sumT l k ∧ sumT l k ≤ (k : Int) * 1000000 := by
  intro k
  induction k with
  | zero => intro _; simp [sumT]
  | succ k ih =>
    intro hk
    have h1 := ih (by omega)
    have hu := h.use (show k < l.length by omega)
    unfold useOk at hu
    simp only [decide_eq_true_eq] at hu
    unfold sumT
    omega
/-- How many turns more. -/
def dueTurns (p : Part) (turns wear : Int) (r : Int) : Int := if 0 < r then min (min 1000000 (p.turns - turns)) ((p.worn * 1000000 - wear) / r) else min 1000000 (p.turns - turns)
def wearEnd (p : Part) (l : List Use) : Int := if l.length = 0 then 0 else (fwd p l l.length).2
open Classical in
noncomputable def dueO (p : Part) (l : List Use) (cls day : Int) : Int × Int :=
  if checkP p l ≠ 0 then (0, checkP p l)
  else if ¬ ((0 ≤ cls ∧ cls ≤ (p.rates.length : Int) - 1) ∧ prevD l l.length ≤ day ∧ day ≤ 100000) then (0, 1)
  else if ¬ IsAt p l l.length then (0, 3)
  else if p.age < day ∨ p.turns < sumT l l.length ∨ p.worn * 1000000 < wearEnd p l then (0, 3)
  else (dueTurns p (sumT l l.length) (wearEnd p l) (p.rates.getD cls.toNat (0, 0)).2, 0)
end Go.Proofs.Ytdfjdkhgdmndjaa
