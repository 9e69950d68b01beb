/- The net of joined edges: its form, and what it can take across a set of nodes. -/
import Derived.Test.YtlmddkekeoebcaaLay
namespace Go.Proofs.Ytlmddkekeoebcaa
set_option linter.unusedVariables false
set_option linter.unusedSimpArgs false

theorem getD_snoc {l : List Ent} {e : Ent} {j : Nat} : (l ++ [e]).getD j Ent.zero = if j = l.length then e else l.getD j Ent.zero := by
  rw [List.getD_eq_getElem?_getD, List.getD_eq_getElem?_getD]
  by_cases h : j = l.length
  · subst h; rw [if_pos rfl, List.getElem?_append_right (Nat.le_refl _), Nat.sub_self]; rfl
  · rw [if_neg h]
    rcases Nat.lt_or_ge j l.length with h1 | h1
    · rw [List.getElem?_append_left h1]
    · rw [List.getElem?_append_right h1, List.getElem?_eq_none (by simp; omega), List.getElem?_eq_none h1]
section
variable {T : Tab} {f t k : Nat} {room : Int} {mv : Mv}
theorem join_len (hft : f ≠ t) (i : Nat) : tlen (joinT T f t room mv) i = tlen T i + (if i = f then 1 else 0) + (if i = t then 1 else 0) := by
  unfold tlen joinT upd
  by_cases h1 : i = t
  · subst h1
    rw [if_pos rfl, if_neg (fun e => hft e.symm), if_pos rfl]; simp
  · rw [if_neg h1, if_neg h1]
    by_cases h2 : i = f
    · subst h2; rw [if_pos rfl, if_pos rfl]; simp
    · rw [if_neg h2, if_neg h2]; rfl
def entAt (T : Tab) (i j : Nat) : Ent := (T i).getD j Ent.zero
theorem join_at (hft : f ≠ t) (i j : Nat) : entAt (joinT T f t room mv) i j = if i = f ∧ j = tlen T f then ⟨t, room, tlen T t, mv⟩ else if i = t ∧ j = tlen T t then ⟨f, 0, tlen T f, Mv.none⟩ else entAt T i j := by
  unfold entAt joinT upd tlen
  by_cases h1 : i = t
  · subst h1
    rw [if_pos rfl, if_neg (fun h => hft h.1.symm), getD_snoc]
    by_cases h2 : j = (T i).length
    · rw [if_pos h2, if_pos ⟨rfl, h2⟩]
    · rw [if_neg h2, if_neg (fun h => h2 h.2)]
  · rw [if_neg h1]
    by_cases h2 : i = f
    · subst h2
      rw [if_pos rfl, getD_snoc]
      by_cases h3 : j = (T i).length
      · rw [if_pos h3, if_pos ⟨rfl, h3⟩]
      · rw [if_neg h3, if_neg (fun h => h3 h.2), if_neg (fun h => h1 h.1)]
    · rw [if_neg h2, if_neg (fun h => h2 h.1), if_neg (fun h => h1 h.1)]
theorem net_wf_join (hft : f ≠ t) (hf : f < k) (ht : t < k) (W : (T.net k).Wf) : ((joinT T f t room mv).net k).Wf := by
  have hlen := join_len (T := T) (room := room) (mv := mv) hft
  have hat := join_at (T := T) (room := room) (mv := mv) hft
  have key : ∀ i, i < k → ∀ j, j < tlen (joinT T f t room mv) i → (i = f ∧ j = tlen T f) ∨ (i = t ∧ j = tlen T t) ∨ (¬ (i = f ∧ j = tlen T f) ∧ ¬ (i = t ∧ j = tlen T t) ∧ j < tlen T i) := by
    intro i hi j hj
    rw [hlen] at hj
    by_cases h1 : i = f ∧ j = tlen T f
    · exact .inl h1
    · by_cases h2 : i = t ∧ j = tlen T t
      · exact .inr (.inl h2)
      · refine .inr (.inr ⟨h1, h2, ?_⟩)
        by_cases e1 : i = f
        · subst e1; rw [if_pos rfl, if_neg hft] at hj; have : j ≠ tlen T i := fun e => h1 ⟨rfl, e⟩; omega
        · by_cases e2 : i = t
          · subst e2; rw [if_neg e1, if_pos rfl] at hj; have : j ≠ tlen T i := fun e => h2 ⟨rfl, e⟩; omega
          · rw [if_neg e1, if_neg e2] at hj; omega
  have hne' : ¬ (t = f ∧ tlen T t = tlen T f) := fun h => hft h.1.symm
  have kold : ∀ i, i < k → ∀ j, j < tlen T i → entAt (joinT T f t room mv) i j = entAt T i j := by
    intro i hi j hj
    rw [hat, if_neg (fun h => by rw [h.1, h.2] at hj; omega), if_neg (fun h => by rw [h.1, h.2] at hj; omega)]
  have hW : ∀ i, i < k → ∀ j, j < tlen T i → (entAt T i j).to < k ∧ (entAt T i j).to ≠ i ∧ (entAt T i j).back < tlen T (entAt T i j).to ∧ (entAt T (entAt T i j).to (entAt T i j).back).to = i ∧ (entAt T (entAt T i j).to (entAt T i j).back).back = j :=
    fun i hi j hj => ⟨W.to_lt i hi j hj, W.to_ne i hi j hj, W.bk_lt i hi j hj, W.bk_to i hi j hj, W.bk_bk i hi j hj⟩
  have all : ∀ i, i < k → ∀ j, j < tlen (joinT T f t room mv) i → (entAt (joinT T f t room mv) i j).to < k ∧ (entAt (joinT T f t room mv) i j).to ≠ i ∧ (entAt (joinT T f t room mv) i j).back < tlen (joinT T f t room mv) (entAt (joinT T f t room mv) i j).to ∧
      (entAt (joinT T f t room mv) (entAt (joinT T f t room mv) i j).to (entAt (joinT T f t room mv) i j).back).to = i ∧ (entAt (joinT T f t room mv) (entAt (joinT T f t room mv) i j).to (entAt (joinT T f t room mv) i j).back).back = j := by
    intro i hi j hj
    rcases key i hi j hj with ⟨rfl, rfl⟩ | ⟨rfl, rfl⟩ | ⟨h1, h2, h3⟩
    · have e1 : entAt (joinT T i t room mv) i (tlen T i) = ⟨t, room, tlen T t, mv⟩ := by rw [hat, if_pos ⟨rfl, rfl⟩]
      have e2 : entAt (joinT T i t room mv) t (tlen T t) = ⟨i, 0, tlen T i, Mv.none⟩ := by rw [hat, if_neg hne', if_pos ⟨rfl, rfl⟩]
      rw [e1]
      dsimp only
      rw [e2]
      refine ⟨ht, fun h => hft h.symm, ?_, rfl, rfl⟩
      rw [hlen, if_pos rfl]; omega
    · have e1 : entAt (joinT T f i room mv) i (tlen T i) = ⟨f, 0, tlen T f, Mv.none⟩ := by rw [hat, if_neg hne', if_pos ⟨rfl, rfl⟩]
      have e2 : entAt (joinT T f i room mv) f (tlen T f) = ⟨i, room, tlen T i, mv⟩ := by rw [hat, if_pos ⟨rfl, rfl⟩]
      rw [e1]
      dsimp only
      rw [e2]
      refine ⟨hf, hft, ?_, rfl, rfl⟩
      rw [hlen, if_pos rfl]; omega
    · rw [kold i hi j h3]
      obtain ⟨g1, g2, g3, g4, g5⟩ := hW i hi j h3
      rw [kold _ g1 _ g3]
      refine ⟨g1, g2, ?_, g4, g5⟩
      rw [hlen]; omega
  exact ⟨fun i hi j hj => (all i hi j hj).1, fun i hi j hj => (all i hi j hj).2.1, fun i hi j hj => (all i hi j hj).2.2.1, fun i hi j hj => (all i hi j hj).2.2.2.1, fun i hi j hj => (all i hi j hj).2.2.2.2⟩
theorem net_ok_join {B : Int} (hft : f ≠ t) (hf : f < k) (ht : t < k) (hr : 0 ≤ room ∧ room ≤ B) (W : (T.net k).Wf) (O : Ok (T.net k) T.room B) : Ok ((joinT T f t room mv).net k) (joinT T f t room mv).room B := by
  have hlen := join_len (T := T) (room := room) (mv := mv) hft
  have hat := join_at (T := T) (room := room) (mv := mv) hft
  have W' := net_wf_join (room := room) (mv := mv) hft hf ht W
  have hroom : ∀ i j, (joinT T f t room mv).room i j = if i = f ∧ j = tlen T f then room else if i = t ∧ j = tlen T t then 0 else T.room i j := by
    intro i j
    show (entAt (joinT T f t room mv) i j).room = _
    rw [hat]
    split
    · rfl
    · split <;> rfl
  have hold : ∀ i, i < k → ∀ j, j < tlen (joinT T f t room mv) i → ¬ (i = f ∧ j = tlen T f) → ¬ (i = t ∧ j = tlen T t) → j < tlen T i := by
    intro i hi j hj h1 h2
    rw [hlen] at hj
    by_cases e1 : i = f
    · subst e1; rw [if_pos rfl, if_neg hft] at hj; have : j ≠ tlen T i := fun e => h1 ⟨rfl, e⟩; omega
    · by_cases e2 : i = t
      · subst e2; rw [if_neg e1, if_pos rfl] at hj; have : j ≠ tlen T i := fun e => h2 ⟨rfl, e⟩; omega
      · rw [if_neg e1, if_neg e2] at hj; omega
  refine ⟨fun i hi j hj => ?_, fun i hi j hj => ?_⟩
  · rw [hroom]
    split
    · exact hr.1
    · rename_i h1
      split
      · exact Int.le_refl _
      · rename_i h2
        exact O.nn i hi j (hold i hi j hj h1 h2)
  · have hne' : ¬ (t = f ∧ tlen T t = tlen T f) := fun h => hft h.1.symm
    show (joinT T f t room mv).room i j + (joinT T f t room mv).room (entAt (joinT T f t room mv) i j).to (entAt (joinT T f t room mv) i j).back ≤ B
    by_cases h1 : i = f ∧ j = tlen T f
    · rw [hat, if_pos h1]
      dsimp only
      rw [hroom, hroom, if_pos h1, if_neg hne', if_pos ⟨rfl, rfl⟩]
      omega
    · by_cases h2 : i = t ∧ j = tlen T t
      · rw [hat, if_neg h1, if_pos h2]
        dsimp only
        rw [hroom, hroom, if_neg h1, if_pos h2, if_pos ⟨rfl, rfl⟩]
        omega
      · have h3 := hold i hi j hj h1 h2
        have g1 := W.to_lt i hi j h3
        have g3 := W.bk_lt i hi j h3
        rw [hat, if_neg h1, if_neg h2, hroom, hroom, if_neg h1, if_neg h2]
        have e1 : ¬ ((entAt T i j).to = f ∧ (entAt T i j).back = tlen T f) := fun h => by
          have : (entAt T i j).back < tlen T (entAt T i j).to := g3
          rw [h.1, h.2] at this; omega
        have e2 : ¬ ((entAt T i j).to = t ∧ (entAt T i j).back = tlen T t) := fun h => by
          have : (entAt T i j).back < tlen T (entAt T i j).to := g3
          rw [h.1, h.2] at this; omega
        rw [if_neg e1, if_neg e2]
        exact O.pair i hi j h3
theorem resid_snoc {e : Ent} {S : Nat → Bool} (hf : f < k) : resid (Tab.net (upd T f (T f ++ [e])) k) (Tab.room (upd T f (T f ++ [e]))) S = resid (T.net k) T.room S + (if S f = true ∧ S e.to = false then e.room else 0) := by
  unfold resid
  have hrow : ∀ i, i ≠ f → upd T f (T f ++ [e]) i = T i := fun i h => upd_ne _ _ h
  have h := sm_upd (f := fun i => sm (fun j => if S i = true ∧ S ((T.net k).to i j) = false then T.room i j else 0) ((T.net k).n i))
    (g := fun i => sm (fun j => if S i = true ∧ S ((Tab.net (upd T f (T f ++ [e])) k).to i j) = false then Tab.room (upd T f (T f ++ [e])) i j else 0) ((Tab.net (upd T f (T f ++ [e])) k).n i)) hf
    (fun i hi hne => by
      show sm (fun j => if S i = true ∧ S (entAt (upd T f (T f ++ [e])) i j).to = false then (entAt (upd T f (T f ++ [e])) i j).room else 0) (tlen (upd T f (T f ++ [e])) i) = _
      unfold entAt tlen
      rw [hrow i hne]
      rfl)
  show sm _ k = _
  refine h.trans ?_
  congr 1
  have e1 : sm (fun j => if S f = true ∧ S (entAt (upd T f (T f ++ [e])) f j).to = false then (entAt (upd T f (T f ++ [e])) f j).room else 0) (tlen (upd T f (T f ++ [e])) f) =
      sm (fun j => if S f = true ∧ S (entAt T f j).to = false then (entAt T f j).room else 0) (tlen T f) + (if S f = true ∧ S e.to = false then e.room else 0) := by
    have hl : tlen (upd T f (T f ++ [e])) f = tlen T f + 1 := by unfold tlen; rw [upd_same]; simp
    rw [hl, sm]
    have hlast : entAt (upd T f (T f ++ [e])) f (tlen T f) = e := by unfold entAt tlen; rw [upd_same, getD_snoc, if_pos rfl]
    rw [hlast]
    congr 1
    refine sm_congr fun j hj => ?_
    have : entAt (upd T f (T f ++ [e])) f j = entAt T f j := by unfold entAt; rw [upd_same, getD_snoc, if_neg (by unfold tlen at hj; omega)]
    rw [this]
  show sm (fun j => if S f = true ∧ S (entAt (upd T f (T f ++ [e])) f j).to = false then (entAt (upd T f (T f ++ [e])) f j).room else 0) (tlen (upd T f (T f ++ [e])) f) -
      sm (fun j => if S f = true ∧ S (entAt T f j).to = false then (entAt T f j).room else 0) (tlen T f) = _
  omega
end

/-- What edges can take across a set. -/
def capJ (S : Nat → Bool) : List Jn → Int
  | [] => 0
  | j :: J => (if S j.f = true ∧ S j.t = false then j.room else 0) + capJ S J
theorem capJ_append (S : Nat → Bool) (J J' : List Jn) : capJ S (J ++ J') = capJ S J + capJ S J' := by
  induction J with
  | nil => simp [capJ]
  | cons j J ih => simp only [List.cons_append, capJ, ih]; omega
theorem capJ_zero {S : Nat → Bool} {J : List Jn} (h : ∀ j ∈ J, S j.f = true → S j.t = false → j.room = 0) : capJ S J = 0 := by
  induction J with
  | nil => rfl
  | cons j J ih =>
    rw [capJ, ih (fun x hx => h x (List.mem_cons_of_mem _ hx))]
    split
    · rename_i h1; rw [h j (List.mem_cons_self ..) h1.1 h1.2]; rfl
    · rfl
theorem capJ_nn {S : Nat → Bool} {J : List Jn} (h : ∀ j ∈ J, 0 ≤ j.room) : 0 ≤ capJ S J := by
  induction J with
  | nil => exact Int.le_refl 0
  | cons j J ih =>
    rw [capJ]
    have h1 := ih (fun x hx => h x (List.mem_cons_of_mem _ hx))
    have h2 := h j (List.mem_cons_self ..)
    split <;> omega
theorem resid_nil {k : Nat} {S : Nat → Bool} : resid (Tab.net (fun _ => []) k) (Tab.room (fun _ => [])) S = 0 := sm_zero fun i _ => rfl
/-- The net of edges that are joined. -/
theorem joins_net {k : Nat} {B : Int} (hB : 0 ≤ B) : ∀ (J : List Jn), (∀ j ∈ J, j.f ≠ j.t ∧ j.f < k ∧ j.t < k ∧ 0 ≤ j.room ∧ j.room ≤ B) → ((joins J).net k).Wf ∧ Ok ((joins J).net k) (joins J).room B ∧ ∀ S, resid ((joins J).net k) (joins J).room S = capJ S J := by
  have key : ∀ (n : Nat) (J : List Jn), J.length = n → (∀ j ∈ J, j.f ≠ j.t ∧ j.f < k ∧ j.t < k ∧ 0 ≤ j.room ∧ j.room ≤ B) → ((joins J).net k).Wf ∧ Ok ((joins J).net k) (joins J).room B ∧ ∀ S, resid ((joins J).net k) (joins J).room S = capJ S J := by
    intro n
    induction n with
    | zero =>
      intro J h _
      have : J = [] := List.eq_nil_of_length_eq_zero h
      subst this
      exact ⟨⟨fun i _ j hj => absurd hj (Nat.not_lt_zero j), fun i _ j hj => absurd hj (Nat.not_lt_zero j), fun i _ j hj => absurd hj (Nat.not_lt_zero j), fun i _ j hj => absurd hj (Nat.not_lt_zero j), fun i _ j hj => absurd hj (Nat.not_lt_zero j)⟩,
        ⟨fun i _ j hj => absurd hj (Nat.not_lt_zero j), fun i _ j hj => absurd hj (Nat.not_lt_zero j)⟩, fun S => resid_nil⟩
    | succ n ih =>
      intro J h hn
      obtain ⟨J', j, rfl⟩ : ∃ J' j, J = J' ++ [j] := ⟨J.dropLast, J.getLast (by intro e; subst e; simp at h), (List.dropLast_concat_getLast _).symm⟩
      obtain ⟨W, O, hr⟩ := ih J' (by simpa using h) (fun x hx => hn x (List.mem_append_left _ hx))
      obtain ⟨h1, h2, h3, h4, h5⟩ := hn j (List.mem_append_right _ (by simp))
      rw [joins_snoc]
      refine ⟨net_wf_join h1 h2 h3 W, net_ok_join h1 h2 h3 ⟨h4, h5⟩ W O, fun S => ?_⟩
      rw [capJ_append]
      unfold joinT
      have e1 := resid_snoc (T := joins J') (f := j.f) (k := k) (e := ⟨j.t, j.room, (joins J' j.t).length, j.mv⟩) (S := S) h2
      have e2 := resid_snoc (T := upd (joins J') j.f (joins J' j.f ++ [⟨j.t, j.room, (joins J' j.t).length, j.mv⟩])) (f := j.t) (k := k) (e := ⟨j.f, 0, (joins J' j.f).length, Mv.none⟩) (S := S) h3
      rw [upd_ne (i := j.t) _ _ (fun e => h1 e.symm)] at e2
      rw [e2, e1, hr S]
      simp only [capJ]
      split <;> split <;> omega
  intro J h
  exact key _ J rfl h
end Go.Proofs.Ytlmddkekeoebcaa
