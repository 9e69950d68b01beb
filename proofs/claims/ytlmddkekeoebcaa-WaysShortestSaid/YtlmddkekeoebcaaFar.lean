/- Chapter 8: ways without steps, how far it is, and the first way. -/
import Derived.Test.YtlmddkekeoebcaaSta
import Derived.Test.YtlmddkekeoebcaaEnd
namespace Go.Proofs.Ytlmddkekeoebcaa
set_option linter.unusedVariables false
set_option linter.unusedSimpArgs false

/-- Whether a passage can be gone without steps. -/
def opn (out : Int) (help : Bool) (p : Psg) : Bool := (decide (p.kind = 1) || (decide (p.kind = 4) && decide (bitI out p.mach = 0))) || (decide (p.kind = 5) && help)
theorem opn_t {out : Int} {help : Bool} {p : Psg} (h : (p.kind = 1 ∨ p.kind = 4 ∧ out / 2 ^ p.mach.toNat % 2 = 0) ∨ p.kind = 5 ∧ help = true) : opn out help p = true := by
  unfold opn bitI
  simp only [Bool.or_eq_true, Bool.and_eq_true, decide_eq_true_eq]
  exact h
theorem opn_f {out : Int} {help : Bool} {p : Psg} (h : (¬p.kind = 1 ∧ (¬p.kind = 4 ∨ ¬out / 2 ^ p.mach.toNat % 2 = 0)) ∧ (¬p.kind = 5 ∨ help = false)) : opn out help p = false := by
  unfold opn bitI
  simp only [Bool.or_eq_false_iff, Bool.and_eq_false_iff, decide_eq_false_iff_not]
  exact h
/-- The other end of a passage. -/
def othr (p : Psg) (a : Int) : Int := if p.a = a then p.b else if p.b = a then p.a else -1
/-- The other end of a passage that can be gone without steps. -/
def oth (out : Int) (help : Bool) (p : Psg) (a : Int) : Int := if opn out help p = false then -1 else othr p a
/-- A way without steps: from, to, ticks, passages. -/
inductive Wk (ps : List Psg) (out : Int) (help : Bool) : Nat → Nat → Nat → List Nat → Prop
  | nil (a : Nat) : Wk ps out help a a 0 []
  | cons {a b c n k : Nat} {l : List Nat} (hk : k < ps.length) (ho : oth out help (ps.getD k Psg.zero) a = (b : Int)) (h : Wk ps out help b c n l) : Wk ps out help a c ((ps.getD k Psg.zero).ticks.toNat + n) (k :: l)
/-- What of a station the ways look at. -/
def PsV (P : Nat) (ps : List Psg) : Prop := ∀ k, k < ps.length → (0 ≤ (ps.getD k Psg.zero).a ∧ (ps.getD k Psg.zero).a < P) ∧ (0 ≤ (ps.getD k Psg.zero).b ∧ (ps.getD k Psg.zero).b < P) ∧ 1 ≤ (ps.getD k Psg.zero).ticks ∧ (ps.getD k Psg.zero).ticks ≤ 20
theorem StV.psv {P : Nat} {ps : List Psg} {xs : List Int} (h : StV P ps xs) : PsV P ps := fun k hk => by
  have := psgOk_iff.1 (h.pas k hk)
  omega
theorem oth_in {P : Nat} {ps : List Psg} (V : PsV P ps) {out : Int} {help : Bool} {k : Nat} (hk : k < ps.length) {a : Int} (h : 0 ≤ oth out help (ps.getD k Psg.zero) a) : opn out help (ps.getD k Psg.zero) = true ∧ oth out help (ps.getD k Psg.zero) a < P ∧ ((ps.getD k Psg.zero).a = a ∧ oth out help (ps.getD k Psg.zero) a = (ps.getD k Psg.zero).b ∨ (ps.getD k Psg.zero).b = a ∧ oth out help (ps.getD k Psg.zero) a = (ps.getD k Psg.zero).a) := by
  have := V k hk
  unfold oth othr at h ⊢
  split at h
  · omega
  · rename_i h1
    refine ⟨by simpa using h1, ?_⟩
    rw [if_neg h1]
    split at h
    · rename_i h2; rw [if_pos h2]; exact ⟨by omega, .inl ⟨h2, rfl⟩⟩
    · rename_i h2
      rw [if_neg h2]
      split at h
      · rename_i h3; rw [if_pos h3]; exact ⟨by omega, .inr ⟨h3, rfl⟩⟩
      · omega
/-- One step along a passage makes nothing shorter. -/
def FixAt (ps : List Psg) (out : Int) (help : Bool) (tk : Nat → Int) (i k : Nat) : Prop := ∀ b : Nat, oth out help (ps.getD k Psg.zero) i = (b : Int) → 0 ≤ tk b → 0 ≤ tk i ∧ tk i ≤ tk b + (ps.getD k Psg.zero).ticks
def potF (P : Nat) (tk : Nat → Int) : Int := sm (fun i => if tk i < 0 then 1000 else tk i) P
def cntF (P : Nat) (tk : Nat → Int) : Int := sm (fun i => if tk i < 0 then 0 else 1) P
/-- A table under way. -/
structure FarI (P : Nat) (ps : List Psg) (out : Int) (help : Bool) (to : Nat) (tk : Nat → Int) : Prop where
  to0 : tk to = 0
  low : ∀ i, -1 ≤ tk i
  walk : ∀ i, i < P → 0 ≤ tk i → ∃ l, Wk ps out help i to (tk i).toNat l
  bd : ∀ i, i < P → tk i ≤ 20 * (cntF P tk - 1)
theorem cntF_le {P : Nat} {tk : Nat → Int} : cntF P tk ≤ P := by
  unfold cntF
  induction P with
  | zero => exact Int.le_refl 0
  | succ n ih => rw [sm]; split <;> omega
theorem potF_nn {P : Nat} {tk : Nat → Int} : 0 ≤ potF P tk := sm_nonneg fun i _ => by split <;> omega
def tk0 (to : Nat) (i : Nat) : Int := if i = to then 0 else -1
section
variable {P : Nat} {ps : List Psg} {out : Int} {help : Bool} {to : Nat} {tk : Nat → Int}
theorem FarI.init (hto : to < P) : FarI P ps out help to (tk0 to) := by
  have h1 : tk0 to to = 0 := by unfold tk0; rw [if_pos rfl]
  have hc : 1 ≤ cntF P (tk0 to) := by
    have := sm_mem (f := fun i => if tk0 to i < 0 then 0 else 1) (fun i _ => by split <;> omega) hto
    rw [h1] at this
    exact this
  refine ⟨h1, fun i => ?_, fun i _ h0 => ?_, fun i _ => ?_⟩
  · unfold tk0; split <;> omega
  · unfold tk0 at h0 ⊢
    split at h0
    · rename_i e; subst e; rw [if_pos rfl]; exact ⟨_, Wk.nil _⟩
    · omega
  · unfold tk0 at hc ⊢; split <;> omega
theorem FarI.small (I : FarI P ps out help to tk) (hP : P ≤ 10) {i : Nat} (hi : i < P) : tk i ≤ 180 := by
  have := I.bd i hi
  have := cntF_le (P := P) (tk := tk)
  omega
theorem FarI.relax (I : FarI P ps out help to tk) (V : PsV P ps) {i b k : Nat} (hi : i < P) (hb : b < P) (hk : k < ps.length) (ho : oth out help (ps.getD k Psg.zero) i = (b : Int)) (h0 : 0 ≤ tk b) (hl : tk i < 0 ∨ tk b + (ps.getD k Psg.zero).ticks < tk i) :
    FarI P ps out help to (upd tk i (tk b + (ps.getD k Psg.zero).ticks)) ∧ potF P (upd tk i (tk b + (ps.getD k Psg.zero).ticks)) + 1 ≤ potF P tk ∨ 900 < tk b + (ps.getD k Psg.zero).ticks := by
  by_cases hbig : 900 < tk b + (ps.getD k Psg.zero).ticks
  · exact .inr hbig
  refine .inl ?_
  have ht : 1 ≤ (ps.getD k Psg.zero).ticks ∧ (ps.getD k Psg.zero).ticks ≤ 20 := (V k hk).2.2
  have hti : i ≠ to := fun e => by subst e; have := I.to0; omega
  have hbi : b ≠ i := fun e => by subst e; omega
  have hc : cntF P (upd tk i (tk b + (ps.getD k Psg.zero).ticks)) = cntF P tk + (if tk i < 0 then 1 else 0) := by
    unfold cntF
    rw [sm_upd (f := fun i => if tk i < 0 then 0 else 1) hi (fun j _ hj => by rw [upd_ne _ _ hj]), upd_same, if_neg (by omega)]
    split <;> omega
  refine ⟨⟨by rw [upd_ne _ _ (fun e => hti e.symm)]; exact I.to0, fun j => ?_, fun j hj h => ?_, fun j hj => ?_⟩, ?_⟩
  · by_cases e : j = i
    · subst e; rw [upd_same]; omega
    · rw [upd_ne _ _ e]; exact I.low j
  · by_cases e : j = i
    · subst e
      rw [upd_same]
      obtain ⟨l, hw⟩ := I.walk b hb h0
      have := Wk.cons hk ho hw
      rw [show (tk b + (ps.getD k Psg.zero).ticks).toNat = (ps.getD k Psg.zero).ticks.toNat + (tk b).toNat by  omega]
      exact ⟨_, this⟩
    · rw [upd_ne _ _ e] at h ⊢; exact I.walk j hj h
  · rw [hc]
    have hbb := I.bd b hb
    by_cases e : j = i
    · subst e
      rw [upd_same]
      have := I.bd j hj
      split <;> omega
    · rw [upd_ne _ _ e]; have := I.bd j hj; split <;> omega
  · unfold potF
    rw [sm_upd (f := fun i => if tk i < 0 then 1000 else tk i) hi (fun j _ hj => by rw [upd_ne _ _ hj]), upd_same, if_neg (by omega)]
    split <;> omega
theorem FarI.step (I : FarI P ps out help to tk) (V : PsV P ps) (hP : P ≤ 10) {i b k : Nat} (hi : i < P) (hb : b < P) (hk : k < ps.length) (ho : oth out help (ps.getD k Psg.zero) i = (b : Int)) (h0 : 0 ≤ tk b) (hl : tk i < 0 ∨ tk b + (ps.getD k Psg.zero).ticks < tk i) :
    FarI P ps out help to (upd tk i (tk b + (ps.getD k Psg.zero).ticks)) ∧ potF P (upd tk i (tk b + (ps.getD k Psg.zero).ticks)) + 1 ≤ potF P tk := by
  rcases I.relax V hi hb hk ho h0 hl with h | h
  · exact h
  · exfalso
    have := I.small hP hb
    have : (ps.getD k Psg.zero).ticks ≤ 20 := (V k hk).2.2.2
    omega
end
theorem fixAt_of {ps : List Psg} {out : Int} {help : Bool} {tk : Nat → Int} {i k : Nat} (h : oth out help (ps.getD k Psg.zero) i < 0 ∨ tk (oth out help (ps.getD k Psg.zero) i).toNat < 0 ∨ (0 ≤ tk i ∧ tk i ≤ tk (oth out help (ps.getD k Psg.zero) i).toNat + (ps.getD k Psg.zero).ticks)) : FixAt ps out help tk i k := fun b hb h0 => by
  rw [hb, Int.toNat_natCast] at h
  omega
def b2i (b : Bool) : Int := if b = true then 1 else 0
theorem fx_next {P : Nat} {ps : List Psg} {out : Int} {help : Bool} {tk : Nat → Int} {m : Bool} {f k : Nat} (h : m = false → (∀ i, i < f → ∀ k, k < ps.length → FixAt ps out help tk i k) ∧ ∀ q, q < k → FixAt ps out help tk f q) (hk : FixAt ps out help tk f k) :
    m = false → (∀ i, i < f → ∀ k, k < ps.length → FixAt ps out help tk i k) ∧ ∀ q, q < k + 1 → FixAt ps out help tk f q := fun e => ⟨(h e).1, fun q hq => by
  by_cases e2 : q = k
  · subst e2; exact hk
  · exact (h e).2 q (by omega)⟩
theorem fx_row {P : Nat} {ps : List Psg} {out : Int} {help : Bool} {tk : Nat → Int} {m : Bool} {f k : Nat} (hk : ps.length ≤ k) (h : m = false → (∀ i, i < f → ∀ k, k < ps.length → FixAt ps out help tk i k) ∧ ∀ q, q < k → FixAt ps out help tk f q) :
    m = false → ∀ i, i < f + 1 → ∀ k, k < ps.length → FixAt ps out help tk i k := fun e i hi q hq => by
  by_cases e2 : i = f
  · subst e2; exact (h e).2 q (by omega)
  · exact (h e).1 i (by omega) q hq
theorem FarI.up {P : Nat} {ps : List Psg} {out : Int} {help : Bool} {to : Nat} {tk : Nat → Int} (I : FarI P ps out help to tk) (V : PsV P ps) (hP : P ≤ 10) {i k : Nat} {X : Int} {m : Bool} {Q : Prop} (hi : i < P) (hk : k < ps.length) (ho : 0 ≤ oth out help (ps.getD k Psg.zero) i) (hb : oth out help (ps.getD k Psg.zero) i < P) (h0 : 0 ≤ tk (oth out help (ps.getD k Psg.zero) i).toNat)
    (hl : tk i < 0 ∨ tk (oth out help (ps.getD k Psg.zero) i).toNat + (ps.getD k Psg.zero).ticks < tk i) (hp : potF P tk + b2i m ≤ X) :
    FarI P ps out help to (upd tk i (tk (oth out help (ps.getD k Psg.zero) i).toNat + (ps.getD k Psg.zero).ticks)) ∧ potF P (upd tk i (tk (oth out help (ps.getD k Psg.zero) i).toNat + (ps.getD k Psg.zero).ticks)) + b2i true ≤ X ∧ (true = false → Q) := by
  have h := I.step V hP hi (b := (oth out help (ps.getD k Psg.zero) i).toNat) (by omega) hk (by omega) h0 hl
  have h8 : b2i true = 1 := rfl
  have h9 : 0 ≤ b2i m := by unfold b2i; split <;> omega
  exact ⟨h.1, by omega, fun e => by cases e⟩
/-- A table of how far it is. -/
structure FarOk (P : Nat) (ps : List Psg) (out : Int) (help : Bool) (to : Nat) (tk : Nat → Int) : Prop where
  to0 : tk to = 0
  low : ∀ i, -1 ≤ tk i
  walk : ∀ i, i < P → 0 ≤ tk i → ∃ l, Wk ps out help i to (tk i).toNat l
  fix : ∀ i, i < P → ∀ k, k < ps.length → FixAt ps out help tk i k
  sml : ∀ i, i < P → tk i ≤ 200
section
variable {P : Nat} {ps : List Psg} {out : Int} {help : Bool} {to : Nat} {tk tk' : Nat → Int}
theorem FarI.done (I : FarI P ps out help to tk) (hP : P ≤ 10) (h : ∀ i, i < P → ∀ k, k < ps.length → FixAt ps out help tk i k) : FarOk P ps out help to tk :=
  ⟨I.to0, I.low, I.walk, h, fun i hi => by have := I.small hP hi; omega⟩
theorem FarOk.least (h : FarOk P ps out help to tk) (V : PsV P ps) {a c n : Nat} {l : List Nat} (W : Wk ps out help a c n l) : a < P → c = to → 0 ≤ tk a ∧ tk a ≤ n := by
  induction W with
  | nil a => intro _ e; subst e; rw [h.to0]; exact ⟨Int.le_refl 0, Int.le_refl 0⟩
  | @cons a b c n k l hk ho _ ih =>
    intro ha e
    have hb := (oth_in V hk (a := (a : Int)) (by rw [ho]; omega)).2.1
    rw [ho] at hb
    have h1 := ih (by omega) e
    have h2 := h.fix a ha k hk b ho h1.1
    have := (V k hk).2.2
    omega
theorem FarOk.unique (h : FarOk P ps out help to tk) (h' : FarOk P ps out help to tk') (V : PsV P ps) {i : Nat} (hi : i < P) : tk i = tk' i := by
  have key : ∀ {t t' : Nat → Int}, FarOk P ps out help to t → FarOk P ps out help to t' → 0 ≤ t i → 0 ≤ t' i ∧ t' i ≤ t i := fun {t t'} H H' h0 => by
    obtain ⟨l, W⟩ := H.walk i hi h0
    have := H'.least V W hi rfl
    omega
  have l1 := h.low i
  have l2 := h'.low i
  by_cases h0 : 0 ≤ tk i
  · have h1 := key h h' h0
    have h2 := key h' h h1.1
    omega
  · by_cases h1 : 0 ≤ tk' i
    · have := key h' h h1; omega
    · omega
end
open Classical in
/-- How far it is to a place; below 0: there is no way. -/
noncomputable def dst (P : Nat) (ps : List Psg) (out : Int) (help : Bool) (to : Nat) (i : Nat) : Int := if h : ∃ tk, FarOk P ps out help to tk then (if i < P then Classical.choose h i else -1) else 0
section
variable {P : Nat} {ps : List Psg} {out : Int} {help : Bool} {to : Nat} {tk : Nat → Int}
theorem dst_eq (V : PsV P ps) (h : FarOk P ps out help to tk) {i : Nat} (hi : i < P) : dst P ps out help to i = tk i := by
  have he : ∃ tk, FarOk P ps out help to tk := ⟨tk, h⟩
  unfold dst
  rw [dif_pos he, if_pos hi]
  exact (Classical.choose_spec he).unique h V hi
theorem dst_ok (V : PsV P ps) (hto : to < P) (h : FarOk P ps out help to tk) : FarOk P ps out help to (dst P ps out help to) := by
  have he : ∃ tk, FarOk P ps out help to tk := ⟨tk, h⟩
  have hd : ∀ i, ¬ i < P → dst P ps out help to i = -1 := fun i hi => by unfold dst; rw [dif_pos he, if_neg hi]
  refine ⟨(dst_eq V h hto).trans h.to0, fun i => ?_, fun i hi => ?_, fun i hi k hk b hb h0 => ?_, fun i hi => ?_⟩
  · by_cases hi : i < P
    · rw [dst_eq V h hi]; exact h.low i
    · rw [hd i hi]; omega
  · rw [dst_eq V h hi]; exact h.walk i hi
  · have hb2 := (oth_in V hk (a := (i : Int)) (by rw [hb]; omega)).2.1
    rw [hb] at hb2
    rw [dst_eq V h (i := b) (by omega)] at h0 ⊢
    rw [dst_eq V h hi]
    exact h.fix i hi k hk b hb h0
  · rw [dst_eq V h hi]; exact h.sml i hi
end
/-- The passage that a first way goes along next. -/
def stepB (ps : List Psg) (out : Int) (help : Bool) (d : Nat → Int) (at_ k : Nat) : Bool :=
  decide (0 ≤ oth out help (ps.getD k Psg.zero) at_) && (decide (0 ≤ d (oth out help (ps.getD k Psg.zero) at_).toNat) && decide (d (oth out help (ps.getD k Psg.zero) at_).toNat + (ps.getD k Psg.zero).ticks = d at_))
def stepK (ps : List Psg) (out : Int) (help : Bool) (d : Nat → Int) (at_ : Nat) : Nat := fstB (stepB ps out help d at_) ps.length
def wayG (ps : List Psg) (out : Int) (help : Bool) (d : Nat → Int) (to : Nat) : Nat → Nat → List Nat
  | 0, _ => []
  | g + 1, a => if a = to then [] else stepK ps out help d a :: wayG ps out help d to g (oth out help (ps.getD (stepK ps out help d a) Psg.zero) a).toNat
section
variable {P : Nat} {ps : List Psg} {out : Int} {help : Bool} {to : Nat} {d : Nat → Int}
theorem wayG_to {g : Nat} : wayG ps out help d to g to = [] := by
  cases g with
  | zero => rfl
  | succ g => unfold wayG; rw [if_pos rfl]
theorem step_at {a k : Nat} (h1 : ∀ q, q < k → stepB ps out help d a q = false) (h2 : stepB ps out help d a k = true) (hk : k < ps.length) : stepK ps out help d a = k := fst_at h1 h2 hk
theorem step_of (V : PsV P ps) {a k : Nat} (hk : k < ps.length) (h : stepB ps out help d a k = true) : ∃ b : Nat, oth out help (ps.getD k Psg.zero) a = (b : Int) ∧ b < P ∧ 0 ≤ d b ∧ d b + (ps.getD k Psg.zero).ticks = d a ∧ 1 ≤ (ps.getD k Psg.zero).ticks := by
  unfold stepB at h
  simp only [Bool.and_eq_true, decide_eq_true_eq] at h
  have h1 := oth_in V hk h.1
  have hV := (V k hk).2.2
  exact ⟨(oth out help (ps.getD k Psg.zero) a).toNat, by omega, by omega, h.2.1, h.2.2, hV.1⟩
theorem FarOk.step_ex (h : FarOk P ps out help to d) (V : PsV P ps) {a : Nat} (ha : a < P) (h0 : 0 ≤ d a) (hne : a ≠ to) : ∃ k, k < ps.length ∧ stepB ps out help d a k = true := by
  obtain ⟨l, W⟩ := h.walk a ha h0
  generalize hn : (d a).toNat = n at W
  cases W with
  | nil => exact absurd rfl hne
  | @cons _ b _ n2 k l2 hk ho W2 =>
    have hb := (oth_in V hk (a := (a : Int)) (by rw [ho]; omega)).2.1
    rw [ho] at hb
    have h1 := h.least V W2 (by omega) rfl
    have h2 := h.fix a ha k hk b ho h1.1
    have := (V k hk).2.2
    refine ⟨k, hk, ?_⟩
    unfold stepB
    simp only [Bool.and_eq_true, decide_eq_true_eq]
    rw [ho, Int.toNat_natCast]
    omega
theorem FarOk.stp (h : FarOk P ps out help to d) (V : PsV P ps) {a : Nat} (ha : a < P) (h0 : 0 ≤ d a) (hne : a ≠ to) : stepK ps out help d a < ps.length ∧ stepB ps out help d a (stepK ps out help d a) = true ∧ ∀ q, q < stepK ps out help d a → stepB ps out help d a q = false := by
  obtain ⟨k, hk, hs⟩ := h.step_ex V ha h0 hne
  have key : ∀ n, (∃ k, k < n ∧ stepB ps out help d a k = true) → fstB (stepB ps out help d a) n < n ∧ stepB ps out help d a (fstB (stepB ps out help d a) n) = true ∧ ∀ q, q < fstB (stepB ps out help d a) n → stepB ps out help d a q = false := by
    intro n
    induction n with
    | zero => rintro ⟨k, hk, _⟩; omega
    | succ n ih =>
      rintro ⟨k, hk, hs⟩
      by_cases he : ∃ k, k < n ∧ stepB ps out help d a k = true
      · obtain ⟨h1, h2, h3⟩ := ih he
        rw [fstB, if_pos h1]
        exact ⟨by omega, h2, h3⟩
      · have hno : ∀ q, q < n → stepB ps out help d a q = false := fun q hq => by
          cases hb : stepB ps out help d a q with
          | false => rfl
          | true => exact absurd ⟨q, hq, hb⟩ he
        have hkn : k = n := by
          by_cases e : k < n
          · exact absurd ⟨k, e, hs⟩ he
          · omega
        subst hkn
        rw [fstB, fst_none hno, if_neg (by omega), if_pos hs]
        exact ⟨by omega, hs, hno⟩
  exact key _ ⟨k, hk, hs⟩
theorem wayG_step {a k g : Nat} (hne : a ≠ to) (h : stepK ps out help d a = k) : wayG ps out help d to (g + 1) a = k :: wayG ps out help d to g (oth out help (ps.getD k Psg.zero) a).toNat := by
  rw [wayG, if_neg hne, h]
/-- The first way is one. -/
theorem FarOk.way (h : FarOk P ps out help to d) (V : PsV P ps) : ∀ (g a : Nat), a < P → 0 ≤ d a → d a ≤ g → Wk ps out help a to (d a).toNat (wayG ps out help d to g a) := by
  intro g
  induction g with
  | zero =>
    intro a ha h0 hg
    by_cases e : a = to
    · subst e; rw [wayG_to, h.to0]; exact Wk.nil _
    · obtain ⟨h1, h2, h3⟩ := h.stp V ha h0 e
      obtain ⟨b, hb, hbP, hb0, hbd, hbt⟩ := step_of V h1 h2
      omega
  | succ g ih =>
    intro a ha h0 hg
    by_cases e : a = to
    · subst e; rw [wayG_to, h.to0]; exact Wk.nil _
    · obtain ⟨h1, h2, h3⟩ := h.stp V ha h0 e
      obtain ⟨b, hb, hbP, hb0, hbd, hbt⟩ := step_of V h1 h2
      rw [wayG_step e rfl, hb, Int.toNat_natCast]
      have := Wk.cons h1 hb (ih b hbP hb0 (by omega))
      rw [show (d a).toNat = (ps.getD (stepK ps out help d a) Psg.zero).ticks.toNat + (d b).toNat by  omega]
      exact this
end
/-- The first way. -/
noncomputable def wayL (P : Nat) (ps : List Psg) (out : Int) (help : Bool) (fr to : Nat) : List Nat := wayG ps out help (dst P ps out help to) to (dst P ps out help to fr).toNat fr
/-- Whether numbers are places. -/
def plOk (P : Int) (l : List Int) : Bool := allN (fun k => decide (0 ≤ l.getD k 0 ∧ l.getD k 0 ≤ P - 1)) l.length
/-- The error of a station, a set of machines and places. -/
def askE (P : Int) (ps : List Psg) (xs : List Int) (out : Int) (l : List Int) : Int :=
  if stE P ps xs ≠ 0 then stE P ps xs else if (decide (0 ≤ out ∧ out ≤ 4095) && plOk P l) = true then 0 else 1
theorem askE_ok {P : Int} {ps : List Psg} {xs : List Int} {out : Int} {l : List Int} (h : askE P ps xs out l = 0) : stE P ps xs = 0 ∧ (0 ≤ out ∧ out ≤ 4095) ∧ ∀ k, k < l.length → 0 ≤ l.getD k 0 ∧ l.getD k 0 ≤ P - 1 := by
  unfold askE at h
  split at h
  · omega
  · rename_i h1
    split at h
    · rename_i h2
      simp only [Bool.and_eq_true, decide_eq_true_eq] at h2
      refine ⟨by omega, h2.1, fun k hk => ?_⟩
      have := allN_iff.1 h2.2 k hk
      simpa using this
    · cases h
theorem plOk_false {P : Int} {l : List Int} {k : Nat} (hk : k < l.length) (h : ¬ (0 ≤ l.getD k 0 ∧ l.getD k 0 ≤ P - 1)) : plOk P l = false := allN_false hk (decide_eq_false h)
/-- The machines that each way needs: those without which there is none. -/
noncomputable def needL (P : Nat) (ps : List Psg) (out : Int) (help : Bool) (fr to : Nat) : Nat → List Nat
  | 0 => []
  | m + 1 => needL P ps out help fr to m ++ (if bitI out m = 0 ∧ dst P ps (out + 2 ^ m) help to fr < 0 then [m] else [])
theorem needL_len {P : Nat} {ps : List Psg} {out : Int} {help : Bool} {fr to : Nat} : ∀ m, (needL P ps out help fr to m).length ≤ m := by
  intro m
  induction m with
  | zero => exact Nat.le_refl 0
  | succ m ih =>
    rw [needL, List.length_append]
    split
    · simp; omega
    · simp; omega
theorem wayG_len {ps : List Psg} {out : Int} {help : Bool} {d : Nat → Int} {to : Nat} : ∀ g a, (wayG ps out help d to g a).length ≤ g := by
  intro g
  induction g with
  | zero => intro a; exact Nat.le_refl 0
  | succ g ih => intro a; unfold wayG; split; exact Nat.zero_le _; simp only [List.length_cons]; have := ih (oth out help (ps.getD (stepK ps out help d a) Psg.zero) a).toNat; omega
/-- A list of numbers, as it lies in memory. -/
def wcl (l : List Nat) (k _j : Nat) : Value := .int .i64 ((l.getD k 0 : Nat) : Int)
theorem wcl_snoc {l : List Nat} {x : Nat} {v : Value} (hv : v = .int .i64 (x : Int)) : ∀ k j, k < l.length + 1 → j < 1 → capp l.length (wcl l) (fun k' j => ([[v]].getD k' []).getD j undef) k j = wcl (l ++ [x]) k j := by
  intro k j hk hj
  have : j = 0 := by omega
  subst this
  subst hv
  unfold capp wcl
  by_cases h : k < l.length
  · rw [if_pos h, List.getD_eq_getElem?_getD, List.getD_eq_getElem?_getD, List.getElem?_append_left h]
  · have e : k = l.length := by omega
    subst e
    rw [if_neg h, Nat.sub_self, List.getD_eq_getElem?_getD, List.getElem?_append_right (Nat.le_refl _), Nat.sub_self]
    rfl
theorem two_cells {x y : Int} : ∀ k j, k < 2 → j < 1 → ([[Value.int .i64 x], [Value.int .i64 y]].getD k []).getD j undef = icl [x, y] k j := by
  intro k j hk hj
  have : j = 0 := by omega
  subst this
  match k, hk with
  | 0, _ => rfl
  | 1, _ => rfl
theorem way_snoc {ps : List Psg} {out : Int} {help : Bool} {d : Nat → Int} {to g p k b : Nat} {wl W : List Nat} (h : wl ++ wayG ps out help d to g p = W) (hg : 1 ≤ g) (hne : p ≠ to) (hk : stepK ps out help d p = k) (hb : oth out help (ps.getD k Psg.zero) p = (b : Int)) : (wl ++ [k]) ++ wayG ps out help d to (g - 1) b = W := by
  obtain ⟨g, rfl⟩ : ∃ n, g = n + 1 := ⟨g - 1, by omega⟩
  rw [wayG_step hne hk, hb, Int.toNat_natCast] at h
  rw [← h, Nat.add_sub_cancel, List.append_assoc]
  rfl
theorem way_end {ps : List Psg} {out : Int} {help : Bool} {d : Nat → Int} {to g : Nat} {wl W : List Nat} (h : wl ++ wayG ps out help d to g to = W) : wl = W := by rw [wayG_to, List.append_nil] at h; exact h
theorem stepB_t {ps : List Psg} {out : Int} {help : Bool} {d : Nat → Int} {p k : Nat} (h : (0 ≤ oth out help (ps.getD k Psg.zero) p ∧ 0 ≤ d (oth out help (ps.getD k Psg.zero) p).toNat) ∧ d (oth out help (ps.getD k Psg.zero) p).toNat + (ps.getD k Psg.zero).ticks = d p) : stepB ps out help d p k = true := by
  unfold stepB
  simp only [Bool.and_eq_true, decide_eq_true_eq]
  exact ⟨h.1.1, h.1.2, h.2⟩
theorem stepB_f {ps : List Psg} {out : Int} {help : Bool} {d : Nat → Int} {p k : Nat} (h : (oth out help (ps.getD k Psg.zero) p < 0 ∨ d (oth out help (ps.getD k Psg.zero) p).toNat < 0) ∨ ¬ d (oth out help (ps.getD k Psg.zero) p).toNat + (ps.getD k Psg.zero).ticks = d p) : stepB ps out help d p k = false := by
  unfold stepB
  simp only [Bool.and_eq_false_iff, decide_eq_false_iff_not]
  omega
theorem no_step {f : Nat → Bool} {k : Nat} (h : ∀ q, q < k → f q = false) (hk : f k = false) : ∀ q, q < k + 1 → f q = false := fun q hq => by
  by_cases e : q = k
  · subst e; exact hk
  · exact h q (by omega)
theorem need_yes {P : Nat} {ps : List Psg} {out : Int} {help : Bool} {fr to m : Nat} {wl : List Nat} (h : wl = needL P ps out help fr to m) (hc : out / 2 ^ m % 2 = 0 ∧ dst P ps (out + 2 ^ m) help to fr < 0) : wl ++ [m] = needL P ps out help fr to (m + 1) := by
  unfold needL bitI
  rw [Int.toNat_natCast, if_pos hc, h]
theorem need_no {P : Nat} {ps : List Psg} {out : Int} {help : Bool} {fr to m : Nat} {wl : List Nat} (h : wl = needL P ps out help fr to m) (hc : ¬ (out / 2 ^ m % 2 = 0 ∧ dst P ps (out + 2 ^ m) help to fr < 0)) : wl = needL P ps out help fr to (m + 1) := by
  unfold needL bitI
  rw [Int.toNat_natCast, if_neg hc, h, List.append_nil]
/-! the document's table: far is 2^30 -/
def rv (x : Int) : Int := if x < 0 then 1073741824 else x
def rcl (tk : Nat → Int) (i _j : Nat) : Value := .int .i64 (rv (tk i))
theorem rv_bd {x : Int} (h : x ≤ 200) : 0 ≤ rv x ∧ rv x ≤ 1073741824 := by unfold rv; split <;> omega
theorem rv_lt {x y t : Int} (hx : x ≤ 200) (hy : y ≤ 200) (ht : 1 ≤ t ∧ t ≤ 20) (h : rv x + t < rv y) : 0 ≤ x ∧ (y < 0 ∨ x + t < y) := by
  unfold rv at h
  split at h <;> split at h <;> omega
theorem rv_ge {x y t : Int} (hx : x ≤ 200) (hy : y ≤ 200) (ht : 1 ≤ t ∧ t ≤ 20) (h : ¬ rv x + t < rv y) : x < 0 ∨ (0 ≤ y ∧ y ≤ x + t) := by
  unfold rv at h
  split at h <;> split at h <;> omega
theorem rv_far {x : Int} (hx : x ≤ 200) : rv x = 1073741824 ↔ x < 0 := by unfold rv; split <;> omega
theorem rcl_put {L : Nat → Int} {p : Nat} {v t : Int} (hv : 0 ≤ v) (ht : 0 ≤ t) : ∀ k j, j < 1 → cput (rcl L) p 0 (.int .i64 (rv v + t)) k j = rcl (upd L p (v + t)) k j := by
  intro k j hj
  have : j = 0 := by omega
  subst this
  have e : rv v + t = rv (v + t) := by unfold rv; rw [if_neg (by omega), if_neg (by omega)]
  rw [e]
  unfold cput rcl upd
  by_cases e : k = p <;> simp [e]
theorem rcl0_put {P k to : Nat} : ∀ q j, j < 1 → cput (fun _ _ => Value.int .i64 1073741824) to 0 (.int .i64 0) q j = rcl (tk0 to) q j := by
  intro q j hj
  have : j = 0 := by omega
  subst this
  unfold cput rcl tk0
  by_cases e : q = to
  · subst e; rw [if_pos ⟨rfl, rfl⟩, if_pos rfl]; rfl
  · rw [if_neg (fun h => e h.1), if_neg e]; rfl
theorem oth_a {P : Nat} {ps : List Psg} (V : PsV P ps) {out : Int} {help : Bool} {k : Nat} (hk : k < ps.length) (ho : opn out help (ps.getD k Psg.zero) = true) : oth out help (ps.getD k Psg.zero) (((ps.getD k Psg.zero).a.toNat : Nat) : Int) = (((ps.getD k Psg.zero).b.toNat : Nat) : Int) := by
  have := V k hk
  unfold oth othr
  rw [if_neg (by rw [ho]; simp), Int.toNat_of_nonneg this.1.1, if_pos rfl]
  omega
theorem oth_b {P : Nat} {ps : List Psg} (V : PsV P ps) {out : Int} {help : Bool} {k : Nat} (hk : k < ps.length) (ho : opn out help (ps.getD k Psg.zero) = true) : oth out help (ps.getD k Psg.zero) (((ps.getD k Psg.zero).b.toNat : Nat) : Int) = (((ps.getD k Psg.zero).a.toNat : Nat) : Int) := by
  have := V k hk
  unfold oth othr
  rw [if_neg (by rw [ho]; simp), Int.toNat_of_nonneg this.2.1.1]
  split
  · omega
  · rw [if_pos rfl]; omega
/-- Both directions of a passage. -/
theorem fix_both {P : Nat} {ps : List Psg} (V : PsV P ps) {out : Int} {help : Bool} {tk : Nat → Int} {k : Nat} (hk : k < ps.length)
    (ha : tk (ps.getD k Psg.zero).b.toNat < 0 ∨ (0 ≤ tk (ps.getD k Psg.zero).a.toNat ∧ tk (ps.getD k Psg.zero).a.toNat ≤ tk (ps.getD k Psg.zero).b.toNat + (ps.getD k Psg.zero).ticks))
    (hb : tk (ps.getD k Psg.zero).a.toNat < 0 ∨ (0 ≤ tk (ps.getD k Psg.zero).b.toNat ∧ tk (ps.getD k Psg.zero).b.toNat ≤ tk (ps.getD k Psg.zero).a.toNat + (ps.getD k Psg.zero).ticks)) : ∀ i, i < P → FixAt ps out help tk i k := fun i hi b ho h0 => by
  have hi2 := oth_in V hk (a := (i : Int)) (by rw [ho]; omega)
  rw [ho] at hi2
  rcases hi2.2.2 with ⟨e1, e2⟩ | ⟨e1, e2⟩ <;> rw [e1, ← e2] at ha hb <;> simp only [Int.toNat_natCast] at ha hb <;> omega
theorem fix_shut {P : Nat} {ps : List Psg} {out : Int} {help : Bool} {tk : Nat → Int} {k : Nat} (ho : opn out help (ps.getD k Psg.zero) = false) : ∀ i, i < P → FixAt ps out help tk i k := fun i hi b hb h0 => by
  unfold oth at hb
  rw [if_pos ho] at hb
  omega
theorem fxr_next {P : Nat} {ps : List Psg} {out : Int} {help : Bool} {tk : Nat → Int} {m : Bool} {k : Nat} (h : m = false → ∀ q, q < k → ∀ i, i < P → FixAt ps out help tk i q) (hk : m = false → ∀ i, i < P → FixAt ps out help tk i k) :
    m = false → ∀ q, q < k + 1 → ∀ i, i < P → FixAt ps out help tk i q := fun e q hq => by
  by_cases e2 : q = k
  · subst e2; exact hk e
  · exact h e q (by omega)
theorem FarI.upA {P : Nat} {ps : List Psg} {out : Int} {help : Bool} {to : Nat} {tk : Nat → Int} (I : FarI P ps out help to tk) (V : PsV P ps) (hP : P ≤ 10) {k x y : Nat} {X : Int} {m : Bool} {Q : Prop} (hk : k < ps.length) (hx : x < P) (hy : y < P) (ho : oth out help (ps.getD k Psg.zero) x = (y : Int)) (hc : 0 ≤ tk y ∧ (tk x < 0 ∨ tk y + (ps.getD k Psg.zero).ticks < tk x)) (hp : potF P tk + b2i m ≤ X) :
    FarI P ps out help to (upd tk x (tk y + (ps.getD k Psg.zero).ticks)) ∧ potF P (upd tk x (tk y + (ps.getD k Psg.zero).ticks)) + b2i true ≤ X ∧ (true = false → Q) := by
  have h := I.step V hP hx hy hk ho hc.1 hc.2
  have h8 : b2i true = 1 := rfl
  have h9 : 0 ≤ b2i m := by unfold b2i; split <;> omega
  exact ⟨h.1, by omega, fun e => by cases e⟩
end Go.Proofs.Ytlmddkekeoebcaa
