/- Chapter 12: the year of the examples, computed. -/
import Derived.Test.YtopmadlgolnmfaaH2
import Derived.Test.YtopmadlgolnmfaaTig
import Derived.Test.YtopmadlgolnmfaaH1
import Derived.Test.YtopmadlgolnmfaaE5
namespace Go.Proofs.Ytopmadlgolnmfaa
set_option linter.unusedVariables false
set_option linter.unusedSimpArgs false
set_option maxRecDepth 100000
open Go.RowKit

/-- With one use more a part is beyond its life just where the sums say so. -/
theorem byd_more {p : Part} {l : List Use} (h : PartOk p l) (hA : IsAt p l l.length) {day turns cls : Int} (hl : l.length < 40) (hd : prevD l l.length ≤ day ∧ day ≤ 100000) (ht : 0 ≤ turns ∧ turns ≤ 1000000) (hc : 0 ≤ cls ∧ cls ≤ (p.rates.length : Int) - 1)
    (h1 : day ≤ p.age) (h2 : sumT l l.length ≤ p.turns) (h3 : wearEnd p l ≤ p.worn * 1000000) : bydB p (l ++ [useMore day turns cls]) = !(decide (sumT l l.length + turns ≤ p.turns) && decide (wearEnd p l + turns * (p.rates.getD cls.toNat (0, 0)).2 ≤ p.worn * 1000000)) := by
  obtain ⟨e1, e2⟩ := more_beyond h hA hl hd ht hc h1 h2 h3
  unfold bydB
  rw [decide_eq_true e1, Bool.not_true, Bool.false_or]
  by_cases h9 : sumT l l.length + turns ≤ p.turns ∧ wearEnd p l + turns * (p.rates.getD cls.toNat (0, 0)).2 ≤ p.worn * 1000000
  · have := e2.2 h9
    rw [decide_eq_true h9.1, decide_eq_true h9.2, decide_eq_false (by omega)]; rfl
  · have h8 : ¬ (beyondO p (l ++ [useMore day turns cls]) Prod.snd).1 < 0 := fun h => h9 (e2.1 h)
    rw [decide_eq_true (p := 0 ≤ _) (by omega)]
    by_cases h7 : sumT l l.length + turns ≤ p.turns
    · rw [decide_eq_true h7, decide_eq_false (fun h => h9 ⟨h7, h⟩)]; rfl
    · rw [decide_eq_false h7]; rfl
theorem isAt_free {p : Part} {l : List Use} (h : ∀ k, k < l.length → (l.getD k Use.zero).meas = false) : IsAt p l l.length :=
  ⟨Nat.le_refl _, fun k hk => fits_not (h k hk), fun h => absurd h (Nat.lt_irrefl _)⟩
def exPr : List Prm := [⟨0, 2, 0, 0, false⟩, ⟨0, 2, 2, 3, false⟩]
def exPt : Part := ⟨[(1, 2)], 1, 1000000, 1000⟩
def exU0 (RA : Option Addr) (rc : Nat) : Unt := ⟨0, 2, 0, [(1, 2)], RA, rc, 1, 1000000, 1000, [], none, 0, 0, 400000, 0, 0⟩
def exU1 (RA : Option Addr) (rc : Nat) : Unt := ⟨1, 2, 0, [(1, 2)], RA, rc, 1, 1000000, 1000, [], none, 0, 0, 1000, 0, 1⟩
def exU (RA : Option Addr) (rc : Nat) : List Unt := [exU0 RA rc, exU1 RA rc]
def exYr (PA : Option Addr) (pc : Nat) (XA : Option Addr) (xc : Nat) (BA : Option Addr) (bc : Nat) (QA : Option Addr) (qc : Nat) (VA : Option Addr) (vc : Nat) (RA : Option Addr) (rc : Nat) : Yr := ⟨4, 4, w8exW, PA, pc, exX, XA, xc, w8exP, BA, bc, 6, false, exPr, QA, qc, exU RA rc, VA, vc, 1, [], none, 0⟩
section
variable {PA : Option Addr} {pc : Nat} {XA : Option Addr} {xc : Nat} {BA : Option Addr} {bc : Nat} {QA : Option Addr} {qc : Nat} {VA : Option Addr} {vc : Nat} {RA : Option Addr} {rc : Nat}
theorem exY_kept : keptE 4 w8exW exX [] exPr = 0 := by decide +kernel
theorem exY_unit (k : Nat) (hk : k < 2) : untB w8exW (exU RA rc) k = true := by
  rw [untB_iff]
  match k, hk with
  | 0, _ => exact ⟨freeM_iff.2 ⟨⟨1, by decide, by decide, rfl⟩, fun k hk => absurd hk (Nat.not_lt_zero k)⟩, (show untI (exU0 none 0) by decide), wearE_ok (show checkP exPt [] = 0 by decide +kernel) (isAt_free fun q hq => absurd hq (Nat.not_lt_zero q))⟩
  | 1, _ => exact ⟨freeM_iff.2 ⟨⟨2, by decide, by decide, rfl⟩, fun k hk => by
      have : k = 0 := by omega
      subst this
      exact (by decide : (0 : Int) ≠ 1)⟩, (show untI (exU1 none 0) by decide), wearE_ok (show checkP exPt [] = 0 by decide +kernel) (isAt_free fun q hq => absurd hq (Nat.not_lt_zero q))⟩
theorem exY_year : yearE (exYr PA pc XA xc BA bc QA qc VA vc RA rc) = 0 :=
  yearE_ok exY_kept (show yrI (exYr none 0 none 0 none 0 none 0 none 0 none 0) by unfold yrI; decide +kernel) (by show ¬ 6 < 2; decide) (allN_iff.2 fun k hk => exY_unit k hk)
end
/-! ## the lives -/
theorem byd_ex (l : List Use) {day turns : Int} {b : Bool} (h : checkP exPt l = 0) (hm : ∀ k, k < l.length → (l.getD k Use.zero).meas = false) (hl : l.length < 40) (hd : prevD l l.length ≤ day ∧ day ≤ 1000) (ht : 0 ≤ turns ∧ turns ≤ 1000000)
    (h2 : sumT l l.length ≤ 1000000) (h3 : wearEnd exPt l ≤ 1000000) (hb : b = (decide (sumT l l.length + turns ≤ 1000000) && decide (wearEnd exPt l + turns * 2 ≤ 1000000))) : bydB exPt (l ++ [useMore day turns 0]) = !b := by
  rw [byd_more (checkP_ok h) (isAt_free hm) hl (by omega) ht (by decide) (by show day ≤ 1000; omega) (by show _ ≤ (1000000 : Int); omega) (by show _ ≤ (1 : Int) * 1000000; omega), hb]
  rfl
def us1 (d : Int) (t : Int) : Use := ⟨d, t, 0, false, 0, 0⟩
section
variable {RA : Option Addr} {rc : Nat} {J : Nat → Int}
theorem m1 {P : Use → Prop} {u : Use} (h : P u) : ∀ k, k < [u].length → P ([u].getD k Use.zero) := fun k hk => by
  have : k = 0 := by simp at hk; omega
  subst this
  exact h
theorem m2 {P : Use → Prop} {u v : Use} (h : P u) (h' : P v) : ∀ k, k < [u, v].length → P ([u, v].getD k Use.zero) := fun k hk => by
  have : k = 0 ∨ k = 1 := by simp at hk; omega
  rcases this with rfl | rfl
  · exact h
  · exact h'
theorem byd0 (t : Int) (ht : t = 400000 ∨ t = 1000) : bydB exPt [useMore 0 t 0] = false := by
  rcases ht with rfl | rfl
  · exact byd_ex [] (b := true) (by decide +kernel) (fun q hq => absurd hq (Nat.not_lt_zero q)) (by decide) (by decide) (by decide) (by decide) (by decide) (by decide +kernel)
  · exact byd_ex [] (b := true) (by decide +kernel) (fun q hq => absurd hq (Nat.not_lt_zero q)) (by decide) (by decide) (by decide) (by decide) (by decide) (by decide +kernel)
theorem byd1 (d : Int) (hd : 0 ≤ d ∧ d ≤ 1000) : bydB exPt [us1 0 400000, useMore d 400000 0] = true :=
  byd_ex [us1 0 400000] (b := false) (by decide +kernel) (m1 (P := fun u => u.meas = false) rfl) (by decide) hd (by decide) (by decide +kernel) (by decide +kernel) (by decide +kernel)
theorem byd2 (d : Int) (hd : 0 ≤ d ∧ d ≤ 1000) : bydB exPt [us1 0 1000, useMore d 1000 0] = false :=
  byd_ex [us1 0 1000] (b := true) (by decide +kernel) (m1 (P := fun u => u.meas = false) rfl) (by decide) hd (by decide) (by decide +kernel) (by decide +kernel) (by decide +kernel)
theorem byd3 : bydB exPt [us1 0 1000, us1 1 1000, useMore 2 1000 0] = false :=
  byd_ex [us1 0 1000, us1 1 1000] (b := true) (by decide +kernel) (m2 (P := fun u => u.meas = false) rfl rfl) (by decide) (by decide) (by decide) (by decide +kernel) (by decide +kernel) (by decide +kernel)
theorem byd4 : bydB exPt [us1 0 1000, us1 2 1000, useMore 3 1000 0] = false :=
  byd_ex [us1 0 1000, us1 2 1000] (b := true) (by decide +kernel) (m2 (P := fun u => u.meas = false) rfl rfl) (by decide) (by decide) (by decide) (by decide +kernel) (by decide +kernel) (by decide +kernel)
theorem run_of {u : Unt} {s : LSt} {j : Int} {d : Nat} {b b' : Bool} (h : bydB u.part (s.uses ++ [useAt u d s.born]) = b) (h2 : b' = ((decide (j = 0) && certN u s j d) && !b)) : runN u s j d = b' := by unfold runN; rw [h, h2]
theorem step_t {u : Unt} {s : LSt} {j : Int} {d : Nat} (h : runN u s j d = true) (hr : renw j = false) : stepL u s j d = ⟨s.uses ++ [useAt u d s.born], s.born, seenN s j d⟩ := by unfold stepL; rw [hr, h]; rfl
theorem step_f {u : Unt} {s : LSt} {j : Int} {d : Nat} (h : runN u s j d = false) (hr : renw j = false) : stepL u s j d = ⟨s.uses, s.born, seenN s j d⟩ := by unfold stepL; rw [hr, h]; rfl
/-! unit 0: one day -/
theorem z0_0 (h : J 0 = 0) : runB' (exU0 RA rc) J 0 = true := by
  show runN (exU0 RA rc) ⟨[], 0, 0⟩ (J 0) 0 = true
  rw [h]; exact run_of (byd0 400000 (.inl rfl)) rfl
theorem l0_1 (h : J 0 = 0) : lifeS (exU0 RA rc) J 1 = ⟨[us1 0 400000], 0, 0⟩ := by
  show stepL (exU0 RA rc) ⟨[], 0, 0⟩ (J 0) 0 = _
  have h1 : runN (exU0 RA rc) ⟨[], 0, 0⟩ (J 0) 0 = true := z0_0 (RA := RA) (rc := rc) h
  rw [h] at h1 ⊢
  rw [step_t h1 (by decide)]; rfl
theorem z0_n {d : Nat} (hd : d ≤ 3) (s j : Int) : runN (exU0 RA rc) ⟨[us1 0 400000], 0, s⟩ j d = false :=
  run_of (b := true) (by
    show bydB exPt [us1 0 400000, useMore ((d : Int) - 0) 400000 0] = true
    rw [Int.sub_zero]; exact byd1 d (by omega)) (by simp)
theorem l0_s {d : Nat} (hd : d ≤ 3) (h1 : lifeS (exU0 RA rc) J d = ⟨[us1 0 400000], 0, 0⟩) (h : J d = 0) : lifeS (exU0 RA rc) J (d + 1) = ⟨[us1 0 400000], 0, 0⟩ := by
  show stepL (exU0 RA rc) (lifeS (exU0 RA rc) J d) (J d) d = _
  rw [h1, h, step_f (z0_n hd 0 0) (by decide)]; rfl
theorem z0 (h : ∀ d, J d = 0) {d : Nat} (hd : d ≤ 3) : runB' (exU0 RA rc) J d = decide (d = 0) := by
  have h1 := l0_1 (RA := RA) (rc := rc) (h 0)
  have h2 := l0_s (by omega) h1 (h 1)
  have h3 := l0_s (by omega) h2 (h 2)
  match d, hd with
  | 0, _ => exact z0_0 (h 0)
  | 1, _ => unfold runB'; rw [h1]; exact z0_n (by omega) _ _
  | 2, _ => unfold runB'; rw [h2]; exact z0_n (by omega) _ _
  | 3, _ => unfold runB'; rw [h3]; exact z0_n (by omega) _ _
/-! unit 1 -/
theorem z1_0 (h : J 0 = 0) : runB' (exU1 RA rc) J 0 = true := by
  show runN (exU1 RA rc) ⟨[], 0, 0⟩ (J 0) 0 = true
  rw [h]; exact run_of (byd0 1000 (.inr rfl)) rfl
theorem l1_1 (h : J 0 = 0) : lifeS (exU1 RA rc) J 1 = ⟨[us1 0 1000], 0, 0⟩ := by
  show stepL (exU1 RA rc) ⟨[], 0, 0⟩ (J 0) 0 = _
  have h1 : runN (exU1 RA rc) ⟨[], 0, 0⟩ (J 0) 0 = true := z1_0 (RA := RA) (rc := rc) h
  rw [h] at h1 ⊢
  rw [step_t h1 (by decide)]; rfl
theorem z1_nil (h : ∀ d, J d = 0) {d : Nat} (hd : d ≤ 3) : runB' (exU1 RA rc) J d = decide (d ≠ 3) := by
  have h1 := l1_1 (RA := RA) (rc := rc) (h 0)
  have r1 : runN (exU1 RA rc) ⟨[us1 0 1000], 0, 0⟩ 0 1 = true := run_of (byd2 1 (by decide)) rfl
  have h2 : lifeS (exU1 RA rc) J 2 = ⟨[us1 0 1000, us1 1 1000], 0, 0⟩ := by
    show stepL (exU1 RA rc) (lifeS (exU1 RA rc) J 1) (J 1) 1 = _
    rw [h1, h 1, step_t r1 (by decide)]; rfl
  have r2 : runN (exU1 RA rc) ⟨[us1 0 1000, us1 1 1000], 0, 0⟩ 0 2 = true := run_of byd3 rfl
  have h3 : (lifeS (exU1 RA rc) J 3).seen = 0 := by
    show (stepL (exU1 RA rc) (lifeS (exU1 RA rc) J 2) (J 2) 2).seen = _
    rw [h2, h 2, step_t r2 (by decide)]; rfl
  match d, hd with
  | 0, _ => exact z1_0 (h 0)
  | 1, _ => unfold runB'; rw [h1, h 1]; exact r1
  | 2, _ => unfold runB'; rw [h2, h 2]; exact r2
  | 3, _ =>
    unfold runB' runN
    have : certN (exU1 RA rc) (lifeS (exU1 RA rc) J 3) (J 3) 3 = false := by
      unfold certN seenN
      rw [h3, h 3]; rfl
    rw [this, Bool.and_false, Bool.false_and]; rfl
theorem z1_one (h0 : J 0 = 0) (h1' : J 1 = 2) (h2' : J 2 = 0) (h3' : J 3 = 0) {d : Nat} (hd : d ≤ 3) : runB' (exU1 RA rc) J d = decide (d ≠ 1) := by
  have h1 := l1_1 (RA := RA) (rc := rc) h0
  have r1 : runN (exU1 RA rc) ⟨[us1 0 1000], 0, 0⟩ 2 1 = false := by unfold runN; rfl
  have h2 : lifeS (exU1 RA rc) J 2 = ⟨[us1 0 1000], 0, 1⟩ := by
    show stepL (exU1 RA rc) (lifeS (exU1 RA rc) J 1) (J 1) 1 = _
    rw [h1, h1', step_f r1 (by decide)]; rfl
  have r2 : runN (exU1 RA rc) ⟨[us1 0 1000], 0, 1⟩ 0 2 = true := run_of (byd2 2 (by decide)) rfl
  have h3 : lifeS (exU1 RA rc) J 3 = ⟨[us1 0 1000, us1 2 1000], 0, 1⟩ := by
    show stepL (exU1 RA rc) (lifeS (exU1 RA rc) J 2) (J 2) 2 = _
    rw [h2, h2', step_t r2 (by decide)]; rfl
  match d, hd with
  | 0, _ => exact z1_0 h0
  | 1, _ => unfold runB'; rw [h1, h1']; exact r1
  | 2, _ => unfold runB'; rw [h2, h2']; exact r2
  | 3, _ => unfold runB'; rw [h3, h3']; exact run_of byd4 rfl
end
end Go.Proofs.Ytopmadlgolnmfaa
