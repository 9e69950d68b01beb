/- Chapter 12: a unit of which nothing is done runs as long as its part lasts. -/
import Derived.Test.YtopmadlgolnmfaaTig
import Derived.Test.YtopmadlgolnmfaaH2
namespace Go.Proofs.Ytopmadlgolnmfaa
set_option linter.unusedVariables false
set_option linter.unusedSimpArgs false
open Go.RowKit

def plU (u : Unt) (d : Nat) : Use := useMore (u.old + d) u.tn u.cl
/-- What a unit does on the first days, if it runs on each. -/
def plP (u : Unt) (m : Nat) : List Use := (List.range m).map (plU u)
section
variable {u : Unt} {m d k : Nat} {J : Nat → Int}
theorem plP_len : (plP u m).length = m := by simp [plP]
theorem plP_succ : plP u (m + 1) = plP u m ++ [plU u m] := by unfold plP; rw [List.range_succ, List.map_append]; rfl
theorem plP_get (h : k < m) : (plP u m).getD k Use.zero = plU u k := by unfold plP; simp [h]
theorem plP_take (h : d ≤ m) : (plP u m).take d = plP u d := by
  unfold plP
  rw [← List.map_take, List.take_range, Nat.min_eq_left h]
theorem plW_take (h : d ≤ m) : (u.uses ++ plP u m).take (u.uses.length + d) = u.uses ++ plP u d := by
  rw [List.take_length_add_append, plP_take h]
theorem plW_free {j : Nat} (h1 : u.uses.length ≤ j) (h2 : j < (u.uses ++ plP u m).length) : ((u.uses ++ plP u m).getD j Use.zero).meas = false := by
  rw [List.length_append, plP_len] at h2
  have e : (u.uses ++ plP u m).getD j Use.zero = plU u (j - u.uses.length) := by
    rw [List.getD_eq_getElem?_getD, List.getElem?_append_right h1, ← List.getD_eq_getElem?_getD]
    exact plP_get (by omega)
  rw [e]; rfl
theorem plW_ok (h : PartOk u.part u.uses) (hA : IsAt u.part u.uses u.uses.length) (hi : untI u) (hp : prevD u.uses u.uses.length ≤ u.old) : ∀ m, m ≤ 20 → (PartOk u.part (u.uses ++ plP u m) ∧ IsAt u.part (u.uses ++ plP u m) (u.uses ++ plP u m).length) ∧ prevD (u.uses ++ plP u m) (u.uses ++ plP u m).length ≤ u.old + m := by
  unfold untI at hi
  intro m
  induction m with
  | zero =>
    intro _
    have e : u.uses ++ plP u 0 = u.uses := by simp [plP]
    rw [e]
    exact ⟨⟨h, hA⟩, by omega⟩
  | succ m ih =>
    intro hm
    obtain ⟨⟨h1, h2⟩, h3⟩ := ih (by omega)
    have e : u.uses ++ plP u (m + 1) = (u.uses ++ plP u m) ++ [useMore (u.old + m) u.tn u.cl] := by rw [plP_succ, List.append_assoc]; rfl
    have el : (u.uses ++ plP u m).length = u.uses.length + m := by rw [List.length_append, plP_len]
    have hl : u.part.rates.length = u.rates.length := rfl
    rw [e]
    refine ⟨⟨more_ok h1 (by omega) ⟨h3, by omega⟩ (by omega) (by rw [hl]; omega), more_at h2⟩, ?_⟩
    have e2 : ((u.uses ++ plP u m) ++ [useMore (u.old + m) u.tn u.cl]).length = (u.uses ++ plP u m).length + 1 := by rw [List.length_append]; rfl
    rw [e2]
    show (((u.uses ++ plP u m) ++ [useMore (u.old + m) u.tn u.cl]).getD (u.uses ++ plP u m).length Use.zero).day ≤ _
    rw [more_get]
    show u.old + m ≤ _
    push_cast
    omega
/-- Whether a use of the plan, or one before it, is beyond the life. -/
def wrnF (u : Unt) (m k : Nat) : Bool := wornB u.part (u.uses ++ plP u m) k (Prod.snd (wearAt u.part (u.uses ++ plP u m) k))
theorem plW_byd (h : PartOk u.part (u.uses ++ plP u m)) (hA : IsAt u.part (u.uses ++ plP u m) (u.uses ++ plP u m).length) (hd : d ≤ m) : bydB u.part (u.uses ++ plP u d) = decide (0 ≤ firstO (wrnF u m) (u.uses.length + d)) := by
  have el : (u.uses ++ plP u m).length = u.uses.length + m := by rw [List.length_append, plP_len]
  have hm : u.uses.length + d ≤ (u.uses ++ plP u m).length := by omega
  have e : ((u.uses ++ plP u m).take (u.uses.length + d)).length = u.uses.length + d := by rw [List.length_take]; omega
  have hA' : wearE u.part ((u.uses ++ plP u m).take (u.uses.length + d)) = 0 := wearE_ok (checkP_of (take_ok h hm)) (take_at hm hA)
  have same : ∀ k, k < u.uses.length + d → wornB u.part ((u.uses ++ plP u m).take (u.uses.length + d)) k (Prod.snd (wearAt u.part ((u.uses ++ plP u m).take (u.uses.length + d)) k)) = wrnF u m k := fun k hk => by
    unfold wrnF
    rw [take_worn hk, take_wear h hm (fun j h1 h2 => plW_free (by omega) h2) (u.uses.length + d - 1 - k) k (by omega)]
  have hb := by_ok Prod.snd hA'
  rw [e, firstO_congr same, plW_take hd] at hb
  unfold bydB
  rw [hb]
  simp
theorem life_pl (hJ : ∀ q, J q = 0) : ∀ d, (∀ q, q < d → runB' u J q = true) → lifeS u J d = ⟨u.uses ++ plP u d, -u.old, u.seen⟩ := by
  intro d
  induction d with
  | zero => intro _; show (⟨u.uses, -u.old, u.seen⟩ : LSt) = _; simp [plP]
  | succ d ih =>
    intro h
    have h1 := ih (fun q hq => h q (by omega))
    have h2 := h d (by omega)
    unfold runB' at h2
    show stepL u (lifeS u J d) (J d) d = _
    rw [h1, hJ d] at h2 ⊢
    unfold stepL
    rw [h2, show renw 0 = false by decide]
    have e1 : seenN ⟨u.uses ++ plP u d, -u.old, u.seen⟩ 0 d = u.seen := rfl
    have e2 : useAt u d (-u.old) = plU u d := by unfold useAt plU useMore; congr 1; omega
    simp only [Bool.false_eq_true, if_false, if_true]
    rw [e1, e2, plP_succ, List.append_assoc]
theorem run_pl (hJ : ∀ q, J q = 0) (h : ∀ q, q < d → runB' u J q = true) : runB' u J d = (decide ((d : Int) - u.seen ≤ u.every) && !bydB u.part (u.uses ++ plP u (d + 1))) := by
  unfold runB'
  rw [life_pl hJ d h, hJ d]
  unfold runN
  have e2 : useAt u d (-u.old) = plU u d := by unfold useAt plU useMore; congr 1; omega
  dsimp only
  rw [e2, List.append_assoc, ← plP_succ]
  rfl
/-- The days of the plan: m is the first day behind the year, or without a certificate. -/
theorem due_pl {n : Nat} (hn : 1 ≤ n ∧ n ≤ 20) (h : PartOk u.part u.uses) (hA : IsAt u.part u.uses u.uses.length) (hi : untI u) (hJ : ∀ q, J q = 0) (hm : ∀ q, q < m → q < n ∧ (q : Int) - u.seen ≤ u.every) (hm2 : ¬ (m < n ∧ (m : Int) - u.seen ≤ u.every)) (hmn : m ≤ n) :
    (lastO u.part u.uses (plP u m)).2 = 0 ∧ max 0 (lastO u.part u.uses (plP u m)).1 = ((fstB (fun d => !runB' u J d) n : Nat) : Int) := by
  have hp : prevD u.uses u.uses.length ≤ u.old := by unfold untI at hi; omega
  obtain ⟨⟨hO, hAt⟩, _⟩ := plW_ok h hA hi hp m (by omega)
  have el : (u.uses ++ plP u m).length = u.uses.length + m := by rw [List.length_append, plP_len]
  have hby : beyondO u.part (u.uses ++ plP u m) Prod.snd = (firstO (wrnF u m) (u.uses.length + m), 0) := by
    rw [by_ok _ (wearE_ok (checkP_of hO) hAt), el]; rfl
  have hany : (plP u m).any (·.meas) = false := by
    rw [List.any_eq_false]
    intro x hx
    unfold plP at hx
    obtain ⟨q, _, rfl⟩ := List.mem_map.1 hx
    simp [plU, useMore]
  have hl : lastO u.part u.uses (plP u m) = if firstO (wrnF u m) (u.uses.length + m) < 0 then ((m : Int), 0) else (max (-1) (firstO (wrnF u m) (u.uses.length + m) - u.uses.length), 0) := by
    unfold lastO
    rw [if_neg (by rw [checkP_of hO]; simp), if_neg (by rw [hany]; simp), hby]
    dsimp only
    rw [if_neg (by simp), plP_len]
  have hstop : ∀ d, (∀ q, q < d → runB' u J q = true) → d < n → d < m → runB' u J d = !decide (0 ≤ firstO (wrnF u m) (u.uses.length + (d + 1))) := fun d hr hd hdm => by
    rw [run_pl hJ hr, plW_byd hO hAt (show d + 1 ≤ m by omega), decide_eq_true (hm d hdm).2, Bool.true_and]
  rw [hl]
  rcases firstO_cases (wrnF u m) (u.uses.length + m) with ⟨h1, h2⟩ | ⟨k, hk, h1, h2, h3⟩
  · rw [h1, if_pos (by decide)]
    refine ⟨rfl, ?_⟩
    have hall : ∀ d, d ≤ m → ∀ q, q < d → runB' u J q = true := by
      intro d
      induction d with
      | zero => intro _ q hq; exact absurd hq (Nat.not_lt_zero q)
      | succ d ih =>
        intro hd q hq
        by_cases e : q = d
        · subst e
          rw [hstop q (ih (by omega)) (hm q (by omega)).1 (by omega), firstO_none fun x hx => h2 x (by omega)]; rfl
        · exact ih (by omega) q (by omega)
    have hf : fstB (fun d => !runB' u J d) n = m := by
      by_cases e : m < n
      · refine fst_at (fun q hq => by rw [hall m (Nat.le_refl _) q hq]; rfl) ?_ e
        rw [run_pl hJ (hall m (Nat.le_refl _)), decide_eq_false (fun h9 => hm2 ⟨e, h9⟩)]; rfl
      · have : m = n := by omega
        subst this
        exact fst_none fun q hq => by rw [hall m (Nat.le_refl _) q hq]; rfl
    rw [hf]
    dsimp only
    omega
  · rw [h1, if_neg (by omega)]
    refine ⟨rfl, ?_⟩
    have hall : ∀ d, d ≤ k - u.uses.length → ∀ q, q < d → runB' u J q = true := by
      intro d
      induction d with
      | zero => intro _ q hq; exact absurd hq (Nat.not_lt_zero q)
      | succ d ih =>
        intro hd q hq
        by_cases e : q = d
        · subst e
          rw [hstop q (ih (by omega)) (hm q (by omega)).1 (by omega), firstO_none fun x hx => h3 x (by omega)]; rfl
        · exact ih (by omega) q (by omega)
    have hf : fstB (fun d => !runB' u J d) n = k - u.uses.length := by
      by_cases e : m = 0
      · subst e
        have e0 : k - u.uses.length = 0 := by omega
        rw [e0]
        refine fst_at (fun q hq => absurd hq (Nat.not_lt_zero q)) ?_ (by omega)
        rw [run_pl hJ (fun q hq => absurd hq (Nat.not_lt_zero q)), decide_eq_false (fun h9 => hm2 ⟨by omega, h9⟩)]; rfl
      · have hkm : k - u.uses.length < m := by omega
        refine fst_at (fun q hq => by rw [hall _ (Nat.le_refl _) q hq]; rfl) ?_ (hm _ hkm).1
        rw [hstop _ (hall _ (Nat.le_refl _)) (hm _ hkm).1 hkm]
        have : firstO (wrnF u m) (u.uses.length + (k - u.uses.length + 1)) = k := firstO_at (by omega) h2 h3
        rw [this, decide_eq_true (by omega)]; rfl
    rw [hf]
    dsimp only
    omega
end
end Go.Proofs.Ytopmadlgolnmfaa
