/- One measure more, one use more; plain. -/
import Derived.Test.YtopmadlgolnmfaaFut
import Derived.Test.YtopmadlgolnmfaaChO
namespace Go.Proofs.Ytopmadlgolnmfaa
set_option linter.unusedVariables false
set_option linter.unusedSimpArgs false
open Go.RowKit

/-! ## one measure more -/
def inside (a b : Int × Int) : Prop := b.1 ≤ a.1 ∧ a.2 ≤ b.2
/-! ## one use more -/
def useMore (day turns cls : Int) : Use := ⟨day, turns, cls, false, 0, 0⟩
theorem wear_up {p : Part} {l : List Use} (h : PartOk p l) : ∀ d k, k + d + 1 = l.length → (wearAt p l k).2 ≤ (fwd p l l.length).2 := by
  intro d
  induction d with
  | zero => intro k hk; rw [wearAt_last (by omega)]; exact Int.le_refl _
  | succ d ih =>
    intro k hk
    have h1 := ih (k + 1) (by omega)
    have h2 := grown_bd h (show k + 1 < l.length by omega)
    rw [wearAt_step (by omega)]
    unfold meetS
    dsimp only
    omega
theorem wearEnd_eq (p : Part) (l : List Use) : wearEnd p l = (fwd p l l.length).2 := by
  unfold wearEnd
  split
  · rename_i h; rw [h]; rfl
  · rfl
theorem sumT_up {p : Part} {l : List Use} (h : PartOk p l) : ∀ d k, k + d = l.length → sumT l k ≤ sumT l l.length := by
  intro d
  induction d with
  | zero => intro k hk; rw [show k = l.length by omega]; exact Int.le_refl _
  | succ d ih =>
    intro k hk
    have h1 := ih (k + 1) (by omega)
    have hu := h.use (show k < l.length by omega)
    unfold useOk at hu
    simp only [decide_eq_true_eq] at hu
    rw [sumT] at h1
    omega
theorem day_up {p : Part} {l : List Use} (h : PartOk p l) : ∀ d k, k + d + 1 = l.length → (l.getD k Use.zero).day ≤ prevD l l.length := by
  intro d
  induction d with
  | zero => intro k hk; rw [show l.length = k + 1 by omega]; exact Int.le_refl _
  | succ d ih =>
    intro k hk
    have h1 := ih (k + 1) (by omega)
    have hu := h.use (show k + 1 < l.length by omega)
    unfold useOk at hu
    simp only [decide_eq_true_eq] at hu
    have : prevD l (k + 1) = (l.getD k Use.zero).day := rfl
    omega
theorem more_get {l : List Use} {u : Use} : (l ++ [u]).getD l.length Use.zero = u := by
  rw [List.getD_eq_getElem?_getD, List.getElem?_append_right (Nat.le_refl _)]; simp
theorem more_take (l : List Use) (u : Use) : (l ++ [u]).take l.length = l := by simp
theorem more_ok {p : Part} {l : List Use} (h : PartOk p l) {day turns cls : Int} (hl : l.length < 40) (hd : prevD l l.length ≤ day ∧ day ≤ 100000) (ht : 0 ≤ turns ∧ turns ≤ 1000000) (hc : 0 ≤ cls ∧ cls ≤ (p.rates.length : Int) - 1) : PartOk p (l ++ [useMore day turns cls]) := by
  refine ⟨h.hdr, h.rates, by simp; omega, ?_⟩
  have e : (l ++ [useMore day turns cls]).length = l.length + 1 := by simp
  unfold usesTo
  rw [e, range_all_succ (n := 0), Bool.and_eq_true]
  constructor
  · rw [List.all_eq_true]
    intro i hi
    have hi' := List.mem_range.1 hi
    have h1 := h.use hi'
    have e1 : prevD (l ++ [useMore day turns cls]) i = prevD l i := by
      have := take_prevD (l := l ++ [useMore day turns cls]) (m := l.length) (k := i) (by omega)
      rw [more_take] at this; exact this.symm
    have e2 : (l ++ [useMore day turns cls]).getD i Use.zero = l.getD i Use.zero := by
      have := take_get (l := l ++ [useMore day turns cls]) (m := l.length) (k := i) hi'
      rw [more_take] at this; exact this.symm
    rw [e1, e2]; exact h1
  · have e1 : prevD (l ++ [useMore day turns cls]) l.length = prevD l l.length := by
      have := take_prevD (l := l ++ [useMore day turns cls]) (m := l.length) (k := l.length) (Nat.le_refl _)
      rw [more_take] at this; exact this.symm
    rw [e1, more_get]
    unfold useOk useMore
    simp only [decide_eq_true_eq]
    refine ⟨by omega, by omega, by omega, by omega, fun _ => by constructor <;> trivial⟩
theorem more_at {p : Part} {l : List Use} {day turns cls : Int} (h : IsAt p l l.length) : IsAt p (l ++ [useMore day turns cls]) (l ++ [useMore day turns cls]).length := by
  have e : (l ++ [useMore day turns cls]).length = l.length + 1 := by simp
  rw [e]
  refine ⟨by omega, fun k hk => ?_, fun h => by omega⟩
  by_cases hk2 : k < l.length
  · have h1 := h.good k hk2
    have e2 := take_get (l := l ++ [useMore day turns cls]) (m := l.length) (k := k) hk2
    have e3 := take_fwd (p := p) (l := l ++ [useMore day turns cls]) (m := l.length) (k + 1) (by omega)
    rw [more_take] at e2 e3
    unfold fits at *
    rw [← e2, ← e3]; exact h1
  · rw [show k = l.length by omega]
    refine fits_not ?_
    rw [more_get]; rfl
/-- With some turns more the part is beyond its life just where a sum says so. -/
theorem more_beyond {p : Part} {l : List Use} (h : PartOk p l) (hA : IsAt p l l.length) {day turns cls : Int} (hl : l.length < 40) (hd : prevD l l.length ≤ day ∧ day ≤ 100000) (ht : 0 ≤ turns ∧ turns ≤ 1000000) (hc : 0 ≤ cls ∧ cls ≤ (p.rates.length : Int) - 1)
    (h1 : day ≤ p.age) (h2 : sumT l l.length ≤ p.turns) (h3 : wearEnd p l ≤ p.worn * 1000000) :
    (beyondO p (l ++ [useMore day turns cls]) Prod.snd).2 = 0 ∧ ((beyondO p (l ++ [useMore day turns cls]) Prod.snd).1 < 0 ↔ sumT l l.length + turns ≤ p.turns ∧ wearEnd p l + turns * (p.rates.getD cls.toNat (0, 0)).2 ≤ p.worn * 1000000) := by
  have hok := more_ok h hl hd ht hc
  have hW : wearE p (l ++ [useMore day turns cls]) = 0 := wearE_ok (checkP_of hok) (more_at hA)
  rw [by_ok _ hW]
  refine ⟨rfl, ?_⟩
  dsimp only
  have e : (l ++ [useMore day turns cls]).length = l.length + 1 := by simp
  have early : ∀ k, k < l.length → wornB p (l ++ [useMore day turns cls]) k (Prod.snd (wearAt p (l ++ [useMore day turns cls]) k)) = false := by
    intro k hk
    have t1 := take_worn (p := p) (l := l ++ [useMore day turns cls]) (m := l.length) hk (Prod.snd (wearAt p (l ++ [useMore day turns cls]) k))
    have t2 := take_wear hok (m := l.length) (by omega) (fun j h4 h5 => by rw [show j = l.length by omega, more_get]; rfl) (l.length - 1 - k) k (by omega)
    rw [more_take] at t1 t2
    rw [← t1, ← t2]
    have b1 := wear_up h (l.length - 1 - k) k (by omega)
    have b2 := sumT_up h (l.length - 1 - k) (k + 1) (by omega)
    have b3 := day_up h (l.length - 1 - k) k (by omega)
    rw [wearEnd_eq] at h3
    unfold wornB
    simp only [Bool.or_eq_false_iff, decide_eq_false_iff_not]
    omega
  have f1 : fwd p (l ++ [useMore day turns cls]) l.length = fwd p l l.length := by
    have := take_fwd (p := p) (l := l ++ [useMore day turns cls]) (m := l.length) l.length (Nat.le_refl _)
    rw [more_take] at this; exact this.symm
  have s1 : sumT (l ++ [useMore day turns cls]) l.length = sumT l l.length := by
    have := take_sumT (l := l ++ [useMore day turns cls]) (m := l.length) l.length (Nat.le_refl _)
    rw [more_take] at this; exact this.symm
  have last : wornB p (l ++ [useMore day turns cls]) l.length (Prod.snd (wearAt p (l ++ [useMore day turns cls]) l.length)) = !(decide (sumT l l.length + turns ≤ p.turns) && decide (wearEnd p l + turns * (p.rates.getD cls.toNat (0, 0)).2 ≤ p.worn * 1000000)) := by
    rw [wearAt_last (by omega), e, fwd_not (by rw [more_get]; rfl), f1]
    unfold wornB
    rw [sumT, s1, more_get, wearEnd_eq]
    rw [Bool.eq_iff_iff]
    simp only [Bool.or_eq_true, decide_eq_true_eq, Bool.not_eq_true', Bool.and_eq_false_iff, decide_eq_false_iff_not]
    unfold addS grownS useMore
    dsimp only
    omega
  rcases firstO_cases (fun k => wornB p (l ++ [useMore day turns cls]) k (Prod.snd (wearAt p (l ++ [useMore day turns cls]) k))) (l ++ [useMore day turns cls]).length with ⟨g1, g2⟩ | ⟨k, hk, g1, g2, g3⟩
  · rw [g1]
    have g4 := g2 l.length (by omega)
    rw [last] at g4
    simp only [Bool.not_eq_false', Bool.and_eq_true, decide_eq_true_eq] at g4
    exact ⟨fun _ => g4, fun _ => by decide⟩
  · rw [g1]
    constructor
    · intro hlt; omega
    · intro hle
      exfalso
      rcases Nat.lt_or_ge k l.length with h5 | h5
      · rw [early k h5] at g2; cases g2
      · rw [show k = l.length by omega, last, decide_eq_true hle.1, decide_eq_true hle.2] at g2
        cases g2
end Go.Proofs.Ytopmadlgolnmfaa
