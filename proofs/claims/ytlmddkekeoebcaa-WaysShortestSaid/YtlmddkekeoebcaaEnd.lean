/- What a net that is full tells. -/
import Derived.Test.YtlmddkekeoebcaaCap
import Derived.Test.YtlmddkekeoebcaaSta
namespace Go.Proofs.Ytlmddkekeoebcaa
set_option linter.unusedVariables false
set_option linter.unusedSimpArgs false

theorem capJ_le {S : Nat → Bool} {c : Int} {J : List Jn} (h : ∀ j ∈ J, S j.f = true → j.room ≤ c) (hc : 0 ≤ c) : capJ S J ≤ c * J.length := by
  induction J with
  | nil => simp [capJ]
  | cons j J ih =>
    have h1 := ih (fun x hx => h x (List.mem_cons_of_mem _ hx))
    rw [capJ, List.length_cons]
    have e : c * ((J.length + 1 : Nat) : Int) = c * J.length + c := by rw [Int.natCast_add, Int.mul_add]; simp
    rw [e]
    split
    · rename_i h2; have := h j (List.mem_cons_self ..) h2.1; omega
    · omega
section
variable {P T : Nat} {pe xs : List Int} {hs : List Hd}
def JRoom (B : Int) (j : Jn) : Prop := 0 ≤ j.room ∧ j.room ≤ B
theorem place_room {p : Nat} (hpe : ∀ k, k < pe.length → 0 ≤ pe.getD k 0 ∧ pe.getD k 0 ≤ 1000) : ∀ j ∈ jPlace P T pe xs p, JRoom 1099511627776 j := by
  intro j hj
  unfold jPlace jWaits jExits at hj
  rcases List.mem_cons.1 hj with rfl | hj
  · unfold JRoom jBeg
    dsimp only
    by_cases h : p < pe.length
    · have := hpe p h; omega
    · rw [List.getD_eq_getElem?_getD, List.getElem?_eq_none (by omega)]; simp
  · rcases List.mem_append.1 hj with hj | hj
    · obtain ⟨t, _, rfl⟩ := List.mem_map.1 hj
      unfold JRoom jWait plenty; dsimp only; omega
    · split at hj
      · obtain ⟨t, _, rfl⟩ := List.mem_map.1 hj
        unfold JRoom jExit plenty; dsimp only; omega
      · cases hj
theorem places_room (hpe : ∀ k, k < pe.length → 0 ≤ pe.getD k 0 ∧ pe.getD k 0 ≤ 1000) : ∀ n, ∀ j ∈ jPlaces P T pe xs n, JRoom 1099511627776 j := by
  intro n
  induction n with
  | zero => intro j hj; cases hj
  | succ n ih =>
    intro j hj
    rcases List.mem_append.1 hj with hj | hj
    · exact ih j hj
    · exact place_room hpe j hj
theorem heads_room (hw : ∀ i, i < hs.length → 1 ≤ (hs.getD i Hd.zero).wide ∧ (hs.getD i Hd.zero).wide ≤ 50) : ∀ {n}, n ≤ hs.length → ∀ j ∈ jHeads P T hs n, JRoom 1099511627776 j := by
  intro n
  induction n with
  | zero => intro _ j hj; cases hj
  | succ n ih =>
    intro hn j hj
    rcases List.mem_append.1 hj with hj | hj
    · exact ih (by omega) j hj
    · obtain ⟨t, _, rfl⟩ := List.mem_map.1 hj
      have := hw n (by omega)
      unfold JRoom jHead; dsimp only; omega
/-- What comes from the beginning. -/
theorem cap_begin (hpe : ∀ k, k < pe.length → 0 ≤ pe.getD k 0 ∧ pe.getD k 0 ≤ 1000) (hh : ∀ i, i < hs.length → HdOk P (hs.getD i Hd.zero)) : capJ (fun v => decide (v = P * (T + 1))) (jAll P T pe xs hs) ≤ 1000 * P := by
  have h1 : ∀ n, n ≤ P → capJ (fun v => decide (v = P * (T + 1))) (jPlaces P T pe xs n) ≤ 1000 * n := by
    intro n
    induction n with
    | zero => intro _; simp [jPlaces, capJ]
    | succ n ih =>
      intro hn
      rw [jPlaces, capJ_append]
      have h2 := ih (by omega)
      have h3 : capJ (fun v => decide (v = P * (T + 1))) (jPlace P T pe xs n) ≤ 1000 := by
        unfold jPlace
        rw [capJ, capJ_zero (J := jWaits P n T ++ _)]
        · have hb : (jBeg P T pe n).room ≤ 1000 := by
            unfold jBeg; dsimp only
            by_cases h : n < pe.length
            · have := hpe n h; omega
            · rw [List.getD_eq_getElem?_getD, List.getElem?_eq_none (by omega)]; simp
          split <;> omega
        · intro j hj hf
          exfalso
          have hf' : j.f = P * (T + 1) := by simpa using hf
          unfold jWaits jExits at hj
          rcases List.mem_append.1 hj with hj | hj
          · obtain ⟨t, ht, rfl⟩ := List.mem_map.1 hj
            have := nd_lt (P := P) (T := T) (t := t) (p := n) (by have := List.mem_range.1 ht; omega) (by omega)
            have e : (jWait P n t).f = nd P t n := rfl
            omega
          · split at hj
            · obtain ⟨t, ht, rfl⟩ := List.mem_map.1 hj
              have := nd_lt (P := P) (T := T) (t := t) (p := n) (by have := List.mem_range.1 ht; omega) (by omega)
              have e : (jExit P T n t).f = nd P t n := rfl
              omega
            · cases hj
      push_cast
      omega
  have h2 : ∀ n, n ≤ hs.length → capJ (fun v => decide (v = P * (T + 1))) (jHeads P T hs n) = 0 := by
    intro n
    induction n with
    | zero => intro _; rfl
    | succ n ih =>
      intro hn
      rw [jHeads, capJ_append, ih (by omega), capJ_zero]
      · rfl
      · intro j hj hf
        exfalso
        have hf' : j.f = P * (T + 1) := by simpa using hf
        obtain ⟨t, ht, rfl⟩ := List.mem_map.1 hj
        have h9 := hh n (by omega)
        unfold HdOk at h9
        have := nd_lt (P := P) (T := T) (t := t) (p := (hs.getD n Hd.zero).fr.toNat) (by have := List.mem_range.1 ht; omega) (by omega)
        have e : (jHead P (hs.getD n Hd.zero) t).f = nd P t (hs.getD n Hd.zero).fr.toNat := rfl
        omega
  unfold jAll
  rw [capJ_append, h2 _ (Nat.le_refl _)]
  have := h1 P (Nat.le_refl _)
  omega
end
/-- A net that is laid. -/
def layT (P T : Nat) (pe xs : List Int) (hs : List Hd) : Tab := joins (jAll P T pe xs hs)
def layN (P T : Nat) (pe xs : List Int) (hs : List Hd) : Net := (layT P T pe xs hs).net (P * (T + 1) + 2)
structure LayOk (P T : Nat) (pe xs : List Int) (hs : List Hd) : Prop where
  wf : (layN P T pe xs hs).Wf
  ok : Ok (layN P T pe xs hs) (layT P T pe xs hs).room 2199023255552
  cap : ∀ S, resid (layN P T pe xs hs) (layT P T pe xs hs).room S = capJ S (jAll P T pe xs hs)
  beg : resid (layN P T pe xs hs) (layT P T pe xs hs).room (fun v => decide (v = P * (T + 1))) ≤ 1000 * P
theorem hds_wide {P : Int} {ps : List Psg} {xs : List Int} {out : Int} (h : StV P ps xs) : ∀ i, i < (hds out xs ps).length → 1 ≤ ((hds out xs ps).getD i Hd.zero).wide ∧ ((hds out xs ps).getD i Hd.zero).wide ≤ 50 := by
  have key : ∀ n, n ≤ ps.length → ∀ x ∈ hdsTo out xs ps n, 1 ≤ x.wide ∧ x.wide ≤ 50 := by
    intro n
    induction n with
    | zero => intro _ x hx; cases hx
    | succ n ih =>
      intro hn x hx
      rcases List.mem_append.1 hx with hx | hx
      · exact ih (by omega) x hx
      · have hp := psgOk_iff.1 (h.pas n (by omega))
        unfold hdsOf hdsA hdsB at hx
        split at hx
        · cases hx
        · rcases List.mem_append.1 hx with hx | hx
          · split at hx
            · cases hx
            · rw [List.mem_singleton.1 hx]; dsimp only; omega
          · split at hx
            · rw [List.mem_singleton.1 hx]; dsimp only; omega
            · cases hx
  intro i hi
  rw [List.getD_eq_getElem?_getD, List.getElem?_eq_getElem hi]
  exact key _ (Nat.le_refl _) _ (List.getElem_mem hi)
theorem lay_ok {P T : Nat} {ps : List Psg} {pe xs : List Int} {out : Int} (h : StV P ps xs) (hpe : ∀ k, k < pe.length → 0 ≤ pe.getD k 0 ∧ pe.getD k 0 ≤ 1000) : LayOk P T pe xs (hds out xs ps) := by
  obtain ⟨W, O, hr⟩ := joins_net (k := P * (T + 1) + 2) (B := 2199023255552) (by omega) (jAll P T pe xs (hds out xs ps)) (by
    intro j hj
    have h1 : JOk P T j ∧ JRoom 1099511627776 j := by
      rcases List.mem_append.1 hj with hj | hj
      · exact ⟨jPlaces_ok (Nat.le_refl _) j hj, places_room hpe P j hj⟩
      · exact ⟨jHeads_ok (hds_ok h) (Nat.le_refl _) j hj, heads_room (hds_wide h) (Nat.le_refl _) j hj⟩
    obtain ⟨⟨a1, a2, a3⟩, a4, a5⟩ := h1
    exact ⟨a1, a2, a3, a4, by omega⟩)
  exact ⟨W, O, hr, Int.le_trans (Int.le_of_eq (hr _)) (cap_begin hpe (hds_ok h))⟩

/-- A flow that is full: v come out; L: what can still be reached. -/
structure EndP (P T : Nat) (pe xs : List Int) (hs : List Hd) (v : Int) (r : RM) (L : Nat → Int) : Prop where
  fl : Fl (layN P T pe xs hs) (layT P T pe xs hs).room r (P * (T + 1)) (P * (T + 1) + 1) v
  nn : 0 ≤ v
  lev : LevOk (layN P T pe xs hs) r (P * (T + 1)) L
  full : L (P * (T + 1) + 1) < 0

/-- The first number below n for which something holds; n: none. -/
def fstB (f : Nat → Bool) : Nat → Nat
  | 0 => 0
  | n + 1 => if fstB f n < n then fstB f n else if f n = true then n else n + 1
theorem fst_le {f : Nat → Bool} : ∀ n, fstB f n ≤ n := by
  intro n
  induction n with
  | zero => exact Nat.le_refl _
  | succ n ih => rw [fstB]; split; omega; split <;> omega
theorem fst_none {f : Nat → Bool} : ∀ {n}, (∀ q, q < n → f q = false) → fstB f n = n := by
  intro n
  induction n with
  | zero => intro _; rfl
  | succ n ih => intro h; rw [fstB, ih (fun q hq => h q (by omega)), if_neg (by omega), if_neg (by rw [h n (by omega)]; simp)]
theorem fst_at {f : Nat → Bool} {t : Nat} (h1 : ∀ q, q < t → f q = false) (h2 : f t = true) : ∀ {n}, t < n → fstB f n = t := by
  intro n
  induction n with
  | zero => intro h; omega
  | succ n ih =>
    intro h
    by_cases e : t = n
    · subst e; rw [fstB, fst_none h1, if_neg (by omega), if_pos h2]
    · rw [fstB, ih (by omega), if_pos (by omega)]
def cutAt (P T : Nat) (L : Nat → Int) (p : Nat) : Nat := fstB (fun t => decide (0 ≤ L (nd P t p))) (T + 1)
def sumI (l : List Int) : Nat → Int := sm (fun k => l.getD k 0)
end Go.Proofs.Ytlmddkekeoebcaa
