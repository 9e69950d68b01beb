/- Chapter 8: how many can be out is the least that goes across; what this tells. -/
import Derived.Test.YtdepakimbagonaaBar
namespace Go.Proofs.Ytdepakimbagonaa
set_option linter.unusedVariables false
set_option linter.unusedSimpArgs false

section
variable {P T : Nat} {ps : List Psg} {xs : List Int} {out : Int} {pe pe' bl : List Int}
def PeOk (pe : List Int) : Prop := ∀ k, k < pe.length → 0 ≤ pe.getD k 0 ∧ pe.getD k 0 ≤ 1000
def cutC (U : Nat → Nat → Bool) (P T : Nat) (ps : List Psg) (xs : List Int) (out : Int) (pe : List Int) : Int := begC U pe P + headC U T xs out ps
/-- What can be reached, by places and ticks. -/
theorem mfv_at (V : StV P ps xs) (ho : 0 ≤ out) (hpe : PeOk pe) {v : Int} {r : RM} {L : Nat → Int} (h : EndP P T pe xs (hds out xs ps) v r L) : Tight (onP P (reached L)) P T xs ∧ v = cutC (onP P (reached L)) P T ps xs out pe := by
  have OP := lay_ok (T := T) (out := out) V hpe
  obtain ⟨b1, b2, b3⟩ := h.at_reach OP
  have hpe' : ∀ p, p < P → 0 ≤ pe.getD p 0 := fun p _ => by
    by_cases h : p < pe.length
    · exact (hpe p h).1
    · rw [List.getD_eq_getElem?_getD, List.getElem?_eq_none (by omega)]; simp
  have hc := cap_P (T := T) V ho hpe' b1 b2
  have hv' : v ≤ 10000 := by
    have h1 := EndP.bound OP h (S := fun v => decide (v = P * (T + 1))) (by simp) (by simp)
    have h2 := cap_begin (P := P) (T := T) (xs := xs) (pe := pe) hpe (hds_ok (out := out) V)
    have := V.size
    omega
  have ht : Tight (onP P (reached L)) P T xs := by
    refine Classical.byContradiction fun hn => ?_
    have := hc.2 hn
    rw [b3] at this
    unfold farI at this
    omega
  exact ⟨ht, by rw [← b3]; exact hc.1 ht⟩
theorem pC_nn (V : StV P ps xs) {U : Nat → Nat → Bool} {i : Nat} (hi : i < ps.length) {t k : Nat} : 0 ≤ pC U T xs out (ps.getD i Psg.zero) t k := by
  have := psgOk_iff.1 (V.pas i hi)
  unfold pC hC
  split
  · split <;> omega
  · omega
/-! ## barriers -/
/-- The least barrier, as a list. -/
noncomputable def cutL (P T : Nat) (pe xs : List Int) (hs : List Hd) : List Int := (List.range P).map fun p => ((mfc P T pe xs hs p : Nat) : Int)
theorem cutL_len {hs : List Hd} : (cutL P T pe xs hs).length = P := by unfold cutL; rw [List.length_map, List.length_range]
theorem cutL_at {hs : List Hd} {p : Nat} (hp : p < P) : (cutL P T pe xs hs).getD p 0 = ((mfc P T pe xs hs p : Nat) : Int) := by
  unfold cutL
  rw [List.getD_eq_getElem?_getD, List.getElem?_map, List.getElem?_range hp]; rfl
theorem fst_lt {f : Nat → Bool} {q : Nat} (hf : f q = true) : ∀ {n}, q < n → fstB f n < n := by
  intro n
  induction n with
  | zero => intro h; omega
  | succ n ih =>
    intro h
    rw [fstB]
    by_cases h1 : fstB f n < n
    · rw [if_pos h1]; omega
    · rw [if_neg h1]
      by_cases e : q = n
      · subst e; rw [if_pos hf]; omega
      · exact absurd (ih (by omega)) h1
theorem fst_yes {f : Nat → Bool} : ∀ {n}, fstB f n < n → f (fstB f n) = true ∧ ∀ q, q < fstB f n → f q = false := by
  intro n
  induction n with
  | zero => intro h; omega
  | succ n ih =>
    intro h
    by_cases h1 : fstB f n < n
    · have e : fstB f (n + 1) = fstB f n := by rw [fstB, if_pos h1]
      rw [e]; exact ih h1
    · have hn : ∀ q, q < n → f q = false := fun q hq => by
        cases hb : f q with
        | false => rfl
        | true =>
          exfalso
          exact h1 (fst_lt hb hq)
      have e : fstB f n = n := fst_none hn
      by_cases hf : f n = true
      · have e2 : fstB f (n + 1) = n := by rw [fstB, if_neg (by omega), if_pos hf]
        rw [e2]; exact ⟨hf, hn⟩
      · have e2 : fstB f (n + 1) = n + 1 := by rw [fstB, if_neg (by omega), if_neg hf]
        omega
theorem cut_on (V : StV P ps xs) (ho : 0 ≤ out) (hpe : PeOk pe) {v : Int} {r : RM} {L : Nat → Int} (h : EndP P T pe xs (hds out xs ps) v r L) {p t : Nat} (hp : p < P) (ht : t ≤ T) : barU (cutL P T pe xs (hds out xs ps)) p t = onP P (reached L) p t := by
  have OP := lay_ok (T := T) (out := out) V hpe
  have hT := (mfv_at V ho hpe h).1 p hp
  unfold barU
  rw [cutL_at hp, mfc_eq OP h hp]
  unfold cutAt
  have hle := fst_le (f := fun t => decide (0 ≤ L (nd P t p))) (T + 1)
  have hf := fst_yes (f := fun t => decide (0 ≤ L (nd P t p))) (n := T + 1)
  generalize hm : fstB (fun t => decide (0 ≤ L (nd P t p))) (T + 1) = m at hle hf
  by_cases hx : hasI xs p = true
  · have h1 := hT.1 hx t ht
    rw [h1]
    refine decide_eq_false fun hle2 => ?_
    have h2 := (hf (by omega)).1
    have h3 := hT.1 hx m (by omega)
    unfold onP reached at h3
    rw [h3] at h2; cases h2
  · have hx' : hasI xs p = false := by simpa using hx
    by_cases hmt : m ≤ t
    · have h2 := (hf (by omega)).1
      have up : ∀ d, m + d ≤ T → onP P (reached L) p (m + d) = true := by
        intro d
        induction d with
        | zero => intro _; exact h2
        | succ d ih => intro hd; exact hT.2 hx' (m + d) (by omega) (ih (by omega))
      have h3 := up (t - m) (by omega)
      rw [show m + (t - m) = t by omega] at h3
      rw [h3]
      exact decide_eq_true (by omega)
    · have h4 : onP P (reached L) p t = false := by
        by_cases hmT : m < T + 1
        · exact (hf hmT).2 t (by omega)
        · cases hb : onP P (reached L) p t with
          | false => rfl
          | true =>
            exfalso
            have := fst_lt (f := fun t => decide (0 ≤ L (nd P t p))) (q := t) hb (show t < T + 1 by omega)
            omega
      rw [h4]
      exact decide_eq_false (by omega)
theorem cut_bar (V : StV P ps xs) (ho : 0 ≤ out) (hpe : PeOk pe) : barOk P T xs (cutL P T pe xs (hds out xs ps)) = true ∧ bndV P T ps xs out pe (cutL P T pe xs (hds out xs ps)) = mfv P T pe xs (hds out xs ps) := by
  have OP := lay_ok (T := T) (out := out) V hpe
  obtain ⟨v, r, L, h⟩ := endP_ex OP
  have hat := mfv_at V ho hpe h
  refine ⟨bar_all (by rw [cutL_len]) (allN_iff.2 fun k hk => ?_), ?_⟩
  · rw [cutL_len] at hk
    have hm : mfc P T pe xs (hds out xs ps) k ≤ T + 1 := by rw [mfc_eq OP h hk]; exact fst_le _
    refine barAt_t ⟨by rw [cutL_at hk]; omega, fun hx => ?_⟩
    rw [cutL_at hk]
    refine Classical.byContradiction fun hne => ?_
    have h1 := cut_on V ho hpe h hk (t := mfc P T pe xs (hds out xs ps) k) (by omega)
    rw [(hat.1 k hk).1 hx _ (by omega)] at h1
    unfold barU at h1
    rw [cutL_at hk] at h1
    have := of_decide_eq_false h1
    omega
  · unfold bndV
    rw [begC_congr (fun p hp t ht => cut_on V ho hpe h hp ht), headC_congr V (fun p hp t ht => cut_on V ho hpe h hp ht), mfv_eq OP h]
    exact hat.2.symm
end
end Go.Proofs.Ytdepakimbagonaa
