/- The greatest flow and the least cut: they are one, and what can be reached does not depend on the way. -/
import Derived.Test.YtlmddkekeoebcaaEnd
namespace Go.Proofs.Ytlmddkekeoebcaa
set_option linter.unusedVariables false
set_option linter.unusedSimpArgs false

theorem resid_zero {N : Net} {r : RM} {S : Nat → Bool} (hn : ∀ i, i < N.k → ∀ j, j < N.n i → 0 ≤ r i j) (h : resid N r S = 0) : ∀ u, u < N.k → S u = true → ∀ j, j < N.n u → 0 < r u j → S (N.to u j) = true := by
  intro u hu hS j hj hr
  have h1 := sm_eq_zero (f := fun i => sm (fun j => if S i = true ∧ S (N.to i j) = false then r i j else 0) (N.n i)) (fun i hi => sm_nonneg fun j hj => by split; exact hn i hi j hj; exact Int.le_refl _) h u hu
  have h2 := sm_eq_zero (f := fun j => if S u = true ∧ S (N.to u j) = false then r u j else 0) (fun j hj => by split; exact hn u hu j hj; exact Int.le_refl _) h1 j hj
  cases hs : S (N.to u j) with
  | true => rfl
  | false =>
    skip
    rw [if_pos ⟨hS, hs⟩] at h2
    omega
def reached (L : Nat → Int) (v : Nat) : Bool := decide (0 ≤ L v)
section
variable {P T : Nat} {pe xs : List Int} {hs : List Hd} {v v' : Int} {r r' : RM} {L L' : Nat → Int}
theorem ind_cut {S : Nat → Bool} (hb : S (P * (T + 1)) = true) (hx : S (P * (T + 1) + 1) = false) : ind S (P * (T + 1)) - ind S (P * (T + 1) + 1) = 1 := by
  unfold ind; rw [hb, hx]; rfl
/-- No set between the beginning and the outside takes less. -/
theorem EndP.bound (O : LayOk P T pe xs hs) (h : EndP P T pe xs hs v r L) {S : Nat → Bool} (hb : S (P * (T + 1)) = true) (hx : S (P * (T + 1) + 1) = false) : v ≤ capJ S (jAll P T pe xs hs) := by
  have h1 := resid_nn (S := S) (h.fl.ok O.ok)
  rw [h.fl.cut, O.cap, ind_cut hb hx] at h1
  omega
theorem EndP.at_reach (O : LayOk P T pe xs hs) (h : EndP P T pe xs hs v r L) : reached L (P * (T + 1)) = true ∧ reached L (P * (T + 1) + 1) = false ∧ capJ (reached L) (jAll P T pe xs hs) = v := by
  have hb : reached L (P * (T + 1)) = true := by unfold reached; rw [h.lev.b0]; rfl
  have hx : reached L (P * (T + 1) + 1) = false := by unfold reached; rw [decide_eq_false_iff_not]; have := h.full; omega
  refine ⟨hb, hx, ?_⟩
  have h0 : resid (layN P T pe xs hs) r (reached L) = 0 := sm_zero fun i hi => sm_zero fun j hj => by
    split
    · rename_i hc
      obtain ⟨h1, h2⟩ := hc
      unfold reached at h1 h2
      simp only [decide_eq_true_eq, decide_eq_false_iff_not] at h1 h2
      have h3 := h.fl.nn i hi j hj
      by_cases h4 : 0 < r i j
      · exact absurd (h.lev.cl i hi h1 j hj h4) h2
      · omega
    · rfl
  rw [h.fl.cut, O.cap, ind_cut hb hx] at h0
  omega
theorem EndP.unique (O : LayOk P T pe xs hs) (h : EndP P T pe xs hs v r L) (h' : EndP P T pe xs hs v' r' L') : v = v' := by
  obtain ⟨a1, a2, a3⟩ := h.at_reach O
  obtain ⟨b1, b2, b3⟩ := h'.at_reach O
  have h1 := h.bound O b1 b2
  have h2 := h'.bound O a1 a2
  omega
/-- A set that takes just what comes out holds all that can be reached. -/
theorem EndP.inside (O : LayOk P T pe xs hs) (h : EndP P T pe xs hs v r L) {S : Nat → Bool} (hb : S (P * (T + 1)) = true) (hx : S (P * (T + 1) + 1) = false) (hc : capJ S (jAll P T pe xs hs) = v) : ∀ u, u < P * (T + 1) + 2 → 0 ≤ L u → S u = true := by
  have h0 : resid (layN P T pe xs hs) r S = 0 := by rw [h.fl.cut, O.cap, ind_cut hb hx]; omega
  exact h.lev.least hb (resid_zero h.fl.nn h0)
theorem EndP.same (O : LayOk P T pe xs hs) (h : EndP P T pe xs hs v r L) (h' : EndP P T pe xs hs v' r' L') : ∀ u, u < P * (T + 1) + 2 → reached L u = reached L' u := by
  have e := h.unique O h'
  obtain ⟨a1, a2, a3⟩ := h.at_reach O
  obtain ⟨b1, b2, b3⟩ := h'.at_reach O
  intro u hu
  have h1 := h.inside O b1 b2 (by omega) u hu
  have h2 := h'.inside O a1 a2 (by omega) u hu
  unfold reached at h1 h2 ⊢
  exact decide_eq_decide.2 ⟨fun h => of_decide_eq_true (h1 h), fun h => of_decide_eq_true (h2 h)⟩
theorem EndP.cut_same (O : LayOk P T pe xs hs) (h : EndP P T pe xs hs v r L) (h' : EndP P T pe xs hs v' r' L') {p : Nat} (hp : p < P) : cutAt P T L p = cutAt P T L' p := by
  have key : ∀ n, n ≤ T + 1 → fstB (fun t => decide (0 ≤ L (nd P t p))) n = fstB (fun t => decide (0 ≤ L' (nd P t p))) n := by
    intro n
    induction n with
    | zero => intro _; rfl
    | succ n ih =>
      intro hn
      rw [fstB, fstB, ih (by omega)]
      have := h.same O h' (nd P n p) (by have := nd_lt (P := P) (T := T) (t := n) (p := p) (by omega) hp; omega)
      unfold reached at this
      rw [this]
  exact key _ (Nat.le_refl _)
end
open Classical in
/-- How many can be out, and the least barrier. -/
noncomputable def mfv (P T : Nat) (pe xs : List Int) (hs : List Hd) : Int := if h : ∃ v, ∃ r L, EndP P T pe xs hs v r L then Classical.choose h else 0
open Classical in
noncomputable def mfc (P T : Nat) (pe xs : List Int) (hs : List Hd) (p : Nat) : Nat := if h : ∃ L, ∃ v r, EndP P T pe xs hs v r L then cutAt P T (Classical.choose h) p else 0
section
variable {P T : Nat} {pe xs : List Int} {hs : List Hd} {v : Int} {r : RM} {L : Nat → Int}
theorem mfv_eq (O : LayOk P T pe xs hs) (h : EndP P T pe xs hs v r L) : mfv P T pe xs hs = v := by
  have he : ∃ v, ∃ r L, EndP P T pe xs hs v r L := ⟨v, r, L, h⟩
  unfold mfv
  rw [dif_pos he]
  obtain ⟨r', L', h'⟩ := Classical.choose_spec he
  exact h'.unique O h
theorem mfc_eq (O : LayOk P T pe xs hs) (h : EndP P T pe xs hs v r L) {p : Nat} (hp : p < P) : mfc P T pe xs hs p = cutAt P T L p := by
  have he : ∃ L, ∃ v r, EndP P T pe xs hs v r L := ⟨L, v, r, h⟩
  unfold mfc
  rw [dif_pos he]
  obtain ⟨v', r', h'⟩ := Classical.choose_spec he
  exact h'.cut_same O h hp
end
end Go.Proofs.Ytlmddkekeoebcaa
