/- The net of a station, as a list of edges that are joined one by one. -/
import Derived.Test.YtlmddkekeoebcaaHds
namespace Go.Proofs.Ytlmddkekeoebcaa
set_option linter.unusedVariables false
set_option linter.unusedSimpArgs false

structure Jn where
  f : Nat
  t : Nat
  room : Int
  mv : Mv
def joins (J : List Jn) : Tab := J.foldl (fun T j => joinT T j.f j.t j.room j.mv) (fun _ => [])
theorem joins_snoc (J : List Jn) (j : Jn) : joins (J ++ [j]) = joinT (joins J) j.f j.t j.room j.mv := by unfold joins; rw [List.foldl_append]; rfl
theorem joins_len (J : List Jn) (hne : ∀ j ∈ J, j.f ≠ j.t) (i : Nat) : (joins J i).length ≤ J.length := by
  have key : ∀ (n : Nat) (J : List Jn), J.length = n → (∀ j ∈ J, j.f ≠ j.t) → (joins J i).length ≤ n := by
    intro n
    induction n with
    | zero => intro J h _; have : J = [] := List.eq_nil_of_length_eq_zero h
              subst this; exact Nat.le_refl 0
    | succ n ih =>
      intro J h hn
      obtain ⟨J', j, rfl⟩ : ∃ J' j, J = J' ++ [j] := ⟨J.dropLast, J.getLast (by intro e; subst e; simp at h), (List.dropLast_concat_getLast _).symm⟩
      have h1 := ih J' (by simpa using h) (fun x hx => hn x (List.mem_append_left _ hx))
      have h2 := hn j (List.mem_append_right _ (by simp))
      rw [joins_snoc]
      unfold joinT upd
      split
      · rename_i e
        subst e
        simp; omega
      · split
        · rename_i e; subst e; simp; omega
        · omega
  exact key _ J rfl hne

/-- The node of a place at a tick. -/
def nd (P t p : Nat) : Nat := P * t + p
theorem nd_lt {P T t p : Nat} (ht : t ≤ T) (hp : p < P) : nd P t p < P * (T + 1) := by
  have : P * (t + 1) ≤ P * (T + 1) := Nat.mul_le_mul_left _ (by omega)
  rw [Nat.mul_add] at this
  unfold nd
  omega
theorem nd_ne {P t t' p p' : Nat} (ht : t < t') (hp : p < P) : nd P t p ≠ nd P t' p' := by
  have : P * (t + 1) ≤ P * t' := Nat.mul_le_mul_left _ (by omega)
  rw [Nat.mul_add] at this
  unfold nd
  omega
def plenty : Int := 1099511627776
/-- The edges of a place: from the beginning, from tick to tick, to the outside. -/
def jBeg (P T : Nat) (pe : List Int) (p : Nat) : Jn := ⟨P * (T + 1), nd P 0 p, pe.getD p 0, Mv.none⟩
def jWait (P p t : Nat) : Jn := ⟨nd P t p, nd P (t + 1) p, plenty, Mv.none⟩
def jExit (P T p t : Nat) : Jn := ⟨nd P t p, P * (T + 1) + 1, plenty, Mv.none⟩
def jWaits (P p n : Nat) : List Jn := (List.range n).map (jWait P p)
def jExits (P T p n : Nat) : List Jn := (List.range n).map (jExit P T p)
def jPlace (P T : Nat) (pe xs : List Int) (p : Nat) : List Jn := jBeg P T pe p :: (jWaits P p T ++ (if hasI xs p = true then jExits P T p (T + 1) else []))
def jPlaces (P T : Nat) (pe xs : List Int) : Nat → List Jn
  | 0 => []
  | p + 1 => jPlaces P T pe xs p ++ jPlace P T pe xs p
/-- The edges of a heading. -/
def jHead (P : Nat) (h : Hd) (t : Nat) : Jn := ⟨nd P t h.fr.toNat, nd P (t + h.ticks.toNat) h.to.toNat, h.wide, ⟨h.pas, h.fr, t, 0⟩⟩
def jHeadN (P : Nat) (h : Hd) (n : Nat) : List Jn := (List.range n).map (jHead P h)
def jHeads (P T : Nat) (hs : List Hd) : Nat → List Jn
  | 0 => []
  | i + 1 => jHeads P T hs i ++ jHeadN P (hs.getD i Hd.zero) (T + 1 - (hs.getD i Hd.zero).ticks.toNat)
def jAll (P T : Nat) (pe xs : List Int) (hs : List Hd) : List Jn := jPlaces P T pe xs P ++ jHeads P T hs hs.length
theorem range_snoc {f : Nat → Jn} (n : Nat) : (List.range (n + 1)).map f = (List.range n).map f ++ [f n] := by rw [List.range_succ, List.map_append]; rfl
section
variable {P T : Nat} {pe xs : List Int} {hs : List Hd}
/-- Its ends lie apart, and in the net. -/
def JOk (P T : Nat) (j : Jn) : Prop := j.f ≠ j.t ∧ j.f < P * (T + 1) + 2 ∧ j.t < P * (T + 1) + 2
theorem jBeg_ok {p : Nat} (hp : p < P) : JOk P T (jBeg P T pe p) := by
  have := nd_lt (P := P) (T := T) (Nat.zero_le T) hp
  exact ⟨by show P * (T + 1) ≠ nd P 0 p; omega, by show P * (T + 1) < _; omega, by show nd P 0 p < _; omega⟩
theorem jWait_ok {p t : Nat} (hp : p < P) (ht : t < T) : JOk P T (jWait P p t) := by
  have h1 := nd_lt (P := P) (T := T) (show t ≤ T by omega) hp
  have h2 := nd_lt (P := P) (T := T) (show t + 1 ≤ T by omega) hp
  exact ⟨nd_ne (by omega) hp, by show nd P t p < _; omega, by show nd P (t + 1) p < _; omega⟩
theorem jExit_ok {p t : Nat} (hp : p < P) (ht : t ≤ T) : JOk P T (jExit P T p t) := by
  have h1 := nd_lt (P := P) (T := T) ht hp
  exact ⟨by show nd P t p ≠ P * (T + 1) + 1; omega, by show nd P t p < _; omega, by show P * (T + 1) + 1 < _; omega⟩
theorem jHead_ok {h : Hd} {t : Nat} (h1 : h.fr.toNat < P) (h2 : h.to.toNat < P) (hd : 1 ≤ h.ticks.toNat) (ht : t + h.ticks.toNat ≤ T) : JOk P T (jHead P h t) := by
  have h3 := nd_lt (P := P) (T := T) (show t ≤ T by omega) h1
  have h4 := nd_lt (P := P) (T := T) ht h2
  exact ⟨nd_ne (by omega) h1, by show nd P t h.fr.toNat < _; omega, by show nd P (t + h.ticks.toNat) h.to.toNat < _; omega⟩
theorem jPlace_ok {p : Nat} (hp : p < P) : ∀ j ∈ jPlace P T pe xs p, JOk P T j := by
  intro j hj
  unfold jPlace jWaits jExits at hj
  rcases List.mem_cons.1 hj with rfl | hj
  · exact jBeg_ok hp
  · rcases List.mem_append.1 hj with hj | hj
    · obtain ⟨t, ht, rfl⟩ := List.mem_map.1 hj
      exact jWait_ok hp (List.mem_range.1 ht)
    · split at hj
      · obtain ⟨t, ht, rfl⟩ := List.mem_map.1 hj
        exact jExit_ok hp (by have := List.mem_range.1 ht; omega)
      · cases hj
theorem jPlaces_ok : ∀ {n : Nat}, n ≤ P → ∀ j ∈ jPlaces P T pe xs n, JOk P T j := by
  intro n
  induction n with
  | zero => intro _ j hj; cases hj
  | succ n ih =>
    intro hn j hj
    rcases List.mem_append.1 hj with hj | hj
    · exact ih (by omega) j hj
    · exact jPlace_ok (by omega) j hj
theorem jPlaces_len : ∀ n, (jPlaces P T pe xs n).length ≤ n * (2 * T + 2) := by
  intro n
  induction n with
  | zero => simp [jPlaces]
  | succ n ih =>
    have : (jPlace P T pe xs n).length ≤ 2 * T + 2 := by
      unfold jPlace jWaits jExits
      split <;> simp <;> omega
    rw [jPlaces, List.length_append, Nat.add_mul]
    omega
def HdOk (P : Nat) (h : Hd) : Prop := (0 ≤ h.fr ∧ h.fr < P) ∧ (0 ≤ h.to ∧ h.to < P) ∧ (1 ≤ h.ticks ∧ h.ticks ≤ 20)
theorem jHeads_ok (hh : ∀ i, i < hs.length → HdOk P (hs.getD i Hd.zero)) : ∀ {n : Nat}, n ≤ hs.length → ∀ j ∈ jHeads P T hs n, JOk P T j := by
  intro n
  induction n with
  | zero => intro _ j hj; cases hj
  | succ n ih =>
    intro hn j hj
    rcases List.mem_append.1 hj with hj | hj
    · exact ih (by omega) j hj
    · obtain ⟨t, ht, rfl⟩ := List.mem_map.1 hj
      have h1 := hh n (by omega)
      unfold HdOk at h1
      have := List.mem_range.1 ht
      exact jHead_ok (by omega) (by omega) (by omega) (by omega)
theorem jHeads_len : ∀ n, (jHeads P T hs n).length ≤ n * (T + 1) := by
  intro n
  induction n with
  | zero => simp [jHeads]
  | succ n ih =>
    rw [jHeads, List.length_append, Nat.add_mul]
    have : (jHeadN P (hs.getD n Hd.zero) (T + 1 - (hs.getD n Hd.zero).ticks.toNat)).length ≤ T + 1 := by unfold jHeadN; simp
    omega
end
end Go.Proofs.Ytlmddkekeoebcaa
