/- Chapter 12: what the judgement says of the station: who leaves, and which promises are kept. -/
import Derived.Test.YtopmadlgolnmfaaH2
import Derived.Test.YtopmadlgolnmfaaMus
namespace Go.Proofs.Ytopmadlgolnmfaa
set_option linter.unusedVariables false
set_option linter.unusedSimpArgs false
open Go.RowKit

/-- The hours of the first n days. -/
noncomputable def hrP (y : Yr) (l : List Tsk) (n : Nat) : List Hq := (List.range n).map fun d => ⟨outY y l d y.us.length, y.help, y.pe⟩
noncomputable def hrL (y : Yr) (l : List Tsk) : List Hq := hrP y l y.days.toNat
noncomputable def sfV (y : Yr) (l : List Tsk) : Int × Bool × Int := safeV y.pl y.ps y.xs (hrL y l) y.limit
noncomputable def kpV (y : Yr) (l : List Tsk) : Int × Int × Bool × Int := keptV y.pl y.ps y.xs (hrL y l) y.prs
/-- How many overhauls there are on a day, among the first n tasks. -/
def ohS (l : List Tsk) (d : Nat) : Nat → Int
  | 0 => 0
  | n + 1 => ohS l d n + if (l.getD n Tsk.zero).day = (d : Int) ∧ (l.getD n Tsk.zero).kind = 2 then 1 else 0
section
variable {y : Yr} {l : List Tsk} {d k n : Nat}
theorem hrP_len : (hrP y l n).length = n := by simp [hrP]
theorem hrP_get (h : k < n) : (hrP y l n).getD k Hq.zero = ⟨outY y l k y.us.length, y.help, y.pe⟩ := by unfold hrP; simp [h]
theorem hrL_len : (hrL y l).length = y.days.toNat := hrP_len
theorem hrL_get (h : k < y.days.toNat) : (hrL y l).getD k Hq.zero = ⟨outY y l k y.us.length, y.help, y.pe⟩ := hrP_get h
theorem hrL_day (h : YOk y) : dayE y.pl y.ps y.xs (hrL y l) = 0 := by
  have h1 := (dayE_ok (keptE_ok h.kept).1).1
  have h2 := leaveE_ok (h.leave (out := 0) (by omega))
  have hd : 1 ≤ y.days ∧ y.days ≤ 20 := h.yr.1
  unfold dayE
  rw [if_neg (by omega), if_pos]
  unfold dayOk
  rw [Bool.and_eq_true, decide_eq_true_eq, allN_iff, hrL_len]
  refine ⟨fun q hq => ?_, by omega⟩
  rw [hrL_get hq]
  unfold hqOk
  rw [Bool.and_eq_true, decide_eq_true_eq]
  exact ⟨outY_bd h (Nat.le_refl _), h2.2.2.1⟩
theorem hrL_kept (h : YOk y) : keptE y.pl y.ps y.xs (hrL y l) y.prs = 0 := by
  have h1 := keptE_ok h.kept
  unfold keptE
  rw [if_neg (by rw [hrL_day h]; simp), if_pos]
  unfold prsOk
  rw [Bool.and_eq_true, decide_eq_true_eq, allN_iff]
  exact ⟨h1.2.2, h1.2.1⟩
theorem allB_leav (h : k < y.days.toNat) : allB y.pl.toNat y.limit.toNat y.ps y.xs ((hrL y l).getD k Hq.zero).out ((hrL y l).getD k Hq.zero).pe = leavB y (outY y l k y.us.length) := by rw [hrL_get h]; rfl
theorem broken_prm (h : k < y.days.toNat) (i : Nat) : broken y.pl.toNat y.ps ((hrL y l).getD k Hq.zero) k (y.prs.getD i Prm.zero) = !prmB y (k : Int) (outY y l k y.us.length) i := by
  rw [hrL_get h]
  unfold broken prmB
  dsimp only
  rw [Bool.not_or, Bool.not_not]
  congr 1
  by_cases h9 : 0 ≤ dst y.pl.toNat y.ps (outY y l k y.us.length) (y.help && (y.prs.getD i Prm.zero).helped) (y.prs.getD i Prm.zero).to.toNat (y.prs.getD i Prm.zero).fr.toNat
  · rw [decide_eq_true h9, decide_eq_false (by omega)]; rfl
  · rw [decide_eq_false h9, decide_eq_true (by omega)]; rfl
theorem broke_keep (h : k < y.days.toNat) : decide (brokeAt y.pl.toNat y.ps (hrL y l) y.prs k < y.prs.length) = !keepB y (k : Int) (outY y l k y.us.length) := by
  have e : brokeAt y.pl.toNat y.ps (hrL y l) y.prs k = fstB (fun i => !prmB y (k : Int) (outY y l k y.us.length) i) y.prs.length := by
    unfold brokeAt
    congr 1
    funext i
    exact broken_prm h i
  rw [e]
  unfold keepB
  by_cases h9 : ∀ i, i < y.prs.length → prmB y (k : Int) (outY y l k y.us.length) i = true
  · rw [allN_iff.2 h9, fst_none (fun q hq => by rw [h9 q hq]; rfl), decide_eq_false (by omega)]; rfl
  · have h8 : allN (prmB y (k : Int) (outY y l k y.us.length)) y.prs.length = false := by rw [← Bool.not_eq_true, allN_iff]; exact h9
    rw [h8]
    have h7 := fst_le (f := fun i => !prmB y (k : Int) (outY y l k y.us.length) i) y.prs.length
    rw [decide_eq_true]; rfl
    refine Classical.byContradiction fun h6 => h9 fun i hi => ?_
    have := fst_low (g := fun i => !prmB y (k : Int) (outY y l k y.us.length) i) (n := y.prs.length) (q := i) (by omega)
    simpa using this
noncomputable def sfN (y : Yr) (l : List Tsk) : Nat := fstB (fun k => !leavB y (outY y l k y.us.length)) y.days.toNat
noncomputable def kpN (y : Yr) (l : List Tsk) : Nat := fstB (fun k => !keepB y (k : Int) (outY y l k y.us.length)) y.days.toNat
theorem fstB_same {f g : Nat → Bool} : ∀ {n : Nat}, (∀ q, q < n → f q = g q) → fstB f n = fstB g n := by
  intro n
  induction n with
  | zero => intro _; rfl
  | succ n ih => intro h; rw [fstB, fstB, ih (fun q hq => h q (by omega)), h n (by omega)]
theorem sfV_eq (h : YOk y) : sfV y l = if sfN y l < y.days.toNat then ((sfN y l : Int), false, 0) else (0, true, 0) := by
  have hl := leaveE_ok (h.leave (out := 0) (by omega))
  have e : safeN y.pl.toNat y.limit.toNat y.ps y.xs (hrL y l) = sfN y l := by
    unfold safeN sfN
    rw [hrL_len]
    exact fstB_same fun q hq => by rw [allB_leav hq]
  unfold sfV safeV
  rw [if_neg (by rw [hrL_day h]; simp), if_neg (fun h9 => h9 hl.2.2.2), e, hrL_len]
theorem kpV_eq (h : YOk y) : (kpV y l).1 = (if kpN y l < y.days.toNat then (kpN y l : Int) else 0) ∧ (kpV y l).2.2.1 = decide (¬ kpN y l < y.days.toNat) ∧ (kpV y l).2.2.2 = 0 := by
  have e : brokeH y.pl.toNat y.ps (hrL y l) y.prs = kpN y l := by
    unfold brokeH kpN
    rw [hrL_len]
    exact fstB_same fun q hq => broke_keep hq
  unfold kpV keptV
  rw [if_neg (by rw [hrL_kept h]; simp), e, hrL_len]
  by_cases h9 : kpN y l < y.days.toNat
  · rw [if_pos h9, if_pos h9, decide_eq_false (fun h => h h9)]; exact ⟨rfl, rfl, rfl⟩
  · rw [if_neg h9, if_neg h9, decide_eq_true h9]; exact ⟨rfl, rfl, rfl⟩
theorem faultD_cases (d : Nat) : (faultD y l d = 1 ∧ y.crew < jbS l d l.length) ∨ (faultD y l d = 2 ∧ ¬ y.crew < jbS l d l.length ∧ shS y l d l.length = true) ∨ (faultD y l d = 3 ∧ keepB y (d : Int) (outY y l d y.us.length) = false) ∨ (faultD y l d = 4 ∧ keepB y (d : Int) (outY y l d y.us.length) = true ∧ leavB y (outY y l d y.us.length) = false) ∨ (faultD y l d = 0 ∧ keepB y (d : Int) (outY y l d y.us.length) = true ∧ leavB y (outY y l d y.us.length) = true) := by
  by_cases h1 : y.crew < jbS l d l.length
  · exact .inl ⟨fault_1 h1, h1⟩
  · cases h2 : shS y l d l.length
    · cases h3 : keepB y (d : Int) (outY y l d y.us.length)
      · exact .inr (.inr (.inl ⟨fault_3 h1 h2 h3, rfl⟩))
      · cases h4 : leavB y (outY y l d y.us.length)
        · exact .inr (.inr (.inr (.inl ⟨fault_4 h1 h2 h3 h4, rfl, rfl⟩)))
        · exact .inr (.inr (.inr (.inr ⟨fault_0 h1 h2 h3 h4, rfl, rfl⟩)))
    · exact .inr (.inl ⟨fault_2 h1 h2, h1, rfl⟩)
theorem shS_oh : ∀ n, shS y l d n = true → 0 < ohS l d n := by
  have nn : ∀ n, 0 ≤ ohS l d n := fun n => by
    induction n with
    | zero => exact Int.le_refl 0
    | succ n ih => rw [ohS]; split <;> omega
  intro n
  induction n with
  | zero => intro h; cases h
  | succ n ih =>
    intro h
    rw [shS, Bool.or_eq_true, Bool.and_eq_true, decide_eq_true_eq] at h
    have h0 := nn n
    rw [ohS]
    rcases h with h | h
    · have := ih h; split <;> omega
    · rw [if_pos h.1]; omega
theorem fst_ge {g : Nat → Bool} {n t : Nat} (ht : t ≤ n) (h : ∀ q, q < t → g q = false) : t ≤ fstB g n := by
  refine Classical.byContradiction fun h9 => ?_
  have h8 := fst_hit (g := g) (n := n) (by omega)
  rw [h _ (by omega)] at h8
  cases h8
/-- What the judgement says. -/
theorem judge_says (h : YOk y) :
    ((judgeV y l).2 = 0 ∧ (judgeV y l).1 = 0 ∧ ¬ sfN y l < y.days.toNat ∧ ¬ kpN y l < y.days.toNat) ∨
    ∃ d : Nat, d < y.days.toNat ∧ (judgeV y l).1 = d ∧ (judgeV y l).2 = faultD y l d ∧ faultD y l d ≠ 0 ∧ d ≤ sfN y l ∧ d ≤ kpN y l ∧ (faultD y l d = 3 → kpN y l = d) ∧ (faultD y l d = 4 → sfN y l = d ∧ d < kpN y l) ∧ (faultD y l d = 1 ↔ y.crew < jbS l d l.length ∧ faultD y l d ≠ 3 ∧ faultD y l d ≠ 4) ∧ (faultD y l d = 2 → 0 < ohS l d l.length) ∧ 0 ≤ faultD y l d ∧ faultD y l d ≤ 4 := by
  have hle := fst_le (f := fun d => decide (faultD y l d ≠ 0)) y.days.toNat
  have low : ∀ q, q < judgeD y l → keepB y (q : Int) (outY y l q y.us.length) = true ∧ leavB y (outY y l q y.us.length) = true := fun q hq => by
    have h1 := fst_low hq
    have h0 : faultD y l q = 0 := by simpa using h1
    rcases faultD_cases (y := y) (l := l) q with ⟨h2, _⟩ | ⟨h2, _⟩ | ⟨h2, _⟩ | ⟨h2, _⟩ | ⟨_, h2⟩
    · omega
    · omega
    · omega
    · omega
    · exact h2
  by_cases hd : judgeD y l < y.days.toNat
  · refine .inr ⟨judgeD y l, hd, ?_⟩
    have e : judgeV y l = ((judgeD y l : Int), faultD y l (judgeD y l)) := by unfold judgeV; rw [if_pos hd]
    have hf : faultD y l (judgeD y l) ≠ 0 := by have h1 := fst_hit (g := fun d => decide (faultD y l d ≠ 0)) hd; exact of_decide_eq_true h1
    have hs : judgeD y l ≤ sfN y l := fst_ge (by omega) fun q hq => by rw [(low q hq).2]; rfl
    have hk : judgeD y l ≤ kpN y l := fst_ge (by omega) fun q hq => by rw [(low q hq).1]; rfl
    rw [e]
    refine ⟨rfl, rfl, hf, hs, hk, fun h3 => ?_, fun h4 => ?_, ?_, fun h2 => ?_, ?_⟩
    · rcases faultD_cases (y := y) (l := l) (judgeD y l) with ⟨h5, _⟩ | ⟨h5, _⟩ | ⟨_, h5⟩ | ⟨h5, _⟩ | ⟨h5, _⟩
      · omega
      · omega
      · exact fst_at (fun q hq => by rw [(low q hq).1]; rfl) (by rw [h5]; rfl) hd
      · omega
      · omega
    · rcases faultD_cases (y := y) (l := l) (judgeD y l) with ⟨h5, _⟩ | ⟨h5, _⟩ | ⟨h5, _⟩ | ⟨_, h5, h6⟩ | ⟨h5, _⟩
      · omega
      · omega
      · omega
      · refine ⟨fst_at (fun q hq => by rw [(low q hq).2]; rfl) (by rw [h6]; rfl) hd, ?_⟩
        have : judgeD y l + 1 ≤ kpN y l := fst_ge (by omega) fun q hq => by
          by_cases e9 : q = judgeD y l
          · subst e9; rw [h5]; rfl
          · rw [(low q (by omega)).1]; rfl
        omega
      · omega
    · rcases faultD_cases (y := y) (l := l) (judgeD y l) with ⟨h5, h6⟩ | ⟨h5, h6, _⟩ | ⟨h5, _⟩ | ⟨h5, _⟩ | ⟨h5, _⟩
      · exact ⟨fun _ => ⟨h6, by omega, by omega⟩, fun _ => h5⟩
      · exact ⟨fun h9 => by omega, fun h9 => absurd h9.1 h6⟩
      · exact ⟨fun h9 => by omega, fun h9 => absurd h5 h9.2.1⟩
      · exact ⟨fun h9 => by omega, fun h9 => absurd h5 h9.2.2⟩
      · exact absurd h5 hf
    · rcases faultD_cases (y := y) (l := l) (judgeD y l) with ⟨h5, _⟩ | ⟨_, _, h6⟩ | ⟨h5, _⟩ | ⟨h5, _⟩ | ⟨h5, _⟩
      · omega
      · exact shS_oh _ h6
      · omega
      · omega
      · omega
    · rcases faultD_cases (y := y) (l := l) (judgeD y l) with ⟨h5, _⟩ | ⟨h5, _⟩ | ⟨h5, _⟩ | ⟨h5, _⟩ | ⟨h5, _⟩ <;> omega
  · have e2 : judgeD y l = y.days.toNat := by unfold judgeD at *; omega
    refine .inl ⟨by unfold judgeV; rw [if_neg hd], by unfold judgeV; rw [if_neg hd], ?_, ?_⟩
    · have : y.days.toNat ≤ sfN y l := fst_ge (Nat.le_refl _) fun q hq => by rw [(low q (by omega)).2]; rfl
      omega
    · have : y.days.toNat ≤ kpN y l := fst_ge (Nat.le_refl _) fun q hq => by rw [(low q (by omega)).1]; rfl
      omega
end
end Go.Proofs.Ytopmadlgolnmfaa
