/- Chapter 8: the plan that a full flow tells is right, and has as many out as can be. -/
import Derived.Test.YtdepakimbagonaaPln
namespace Go.Proofs.Ytdepakimbagonaa
set_option linter.unusedVariables false
set_option linter.unusedSimpArgs false

/-! ## sums over lists -/
def lS {α : Type} (F : α → Int) : List α → Int
  | [] => 0
  | a :: l => F a + lS F l
section
variable {α : Type} {F G : α → Int}
theorem lS_append : ∀ (l l' : List α), lS F (l ++ l') = lS F l + lS F l' := by
  intro l l'
  induction l with
  | nil => simp [lS]
  | cons a l ih => simp only [List.cons_append, lS, ih]; omega
theorem lS_zero {l : List α} (h : ∀ a ∈ l, F a = 0) : lS F l = 0 := by
  induction l with
  | nil => rfl
  | cons a l ih => rw [lS, h a (List.mem_cons_self ..), ih (fun x hx => h x (List.mem_cons_of_mem _ hx))]; rfl
theorem lS_le {l : List α} (h : ∀ a ∈ l, F a ≤ G a) : lS F l ≤ lS G l := by
  induction l with
  | nil => exact Int.le_refl 0
  | cons a l ih =>
    have h1 := h a (List.mem_cons_self ..)
    have h2 := ih (fun x hx => h x (List.mem_cons_of_mem _ hx))
    rw [lS, lS]; omega
theorem snoc_ind {p : List α → Prop} (h0 : p []) (h1 : ∀ l a, p l → p (l ++ [a])) : ∀ l, p l := by
  have key : ∀ n (l : List α), l.length = n → p l := by
    intro n
    induction n with
    | zero => intro l h; rw [List.eq_nil_of_length_eq_zero h]; exact h0
    | succ n ih =>
      intro l h
      obtain ⟨l', a, rfl⟩ : ∃ l' a, l = l' ++ [a] := ⟨l.dropLast, l.getLast (by intro e; subst e; simp at h), (List.dropLast_concat_getLast _).symm⟩
      exact h1 _ _ (ih l' (by simpa using h))
  exact fun l => key _ l rfl
theorem getD_snoc' {d a : α} {l : List α} {k : Nat} : (l ++ [a]).getD k d = if k < l.length then l.getD k d else if k = l.length then a else d := by
  rw [List.getD_eq_getElem?_getD, List.getD_eq_getElem?_getD]
  by_cases h : k < l.length
  · rw [if_pos h, List.getElem?_append_left h]
  · rw [if_neg h, List.getElem?_append_right (by omega)]
    by_cases e : k = l.length
    · rw [if_pos e, e, Nat.sub_self]; rfl
    · rw [if_neg e, List.getElem?_eq_none (by simp; omega)]; rfl
theorem sm_lS {d : α} : ∀ l : List α, sm (fun k => F (l.getD k d)) l.length = lS F l := snoc_ind rfl fun l a ih => by
  rw [List.length_append, lS_append, ← ih]
  show sm _ l.length + F ((l ++ [a]).getD l.length d) = _
  rw [getD_snoc', if_neg (by omega), if_pos rfl]
  have : lS F [a] = F a := by rw [lS, lS, Int.add_zero]
  rw [this]
  congr 1
  exact sm_congr fun k hk => by rw [getD_snoc', if_pos hk]
end

/-! ## edges that are joined, and their flow -/
def jAt (J : List Jn) (q : Nat) : Jn := J.getD q Jn.zero
def posF (J : List Jn) (q : Nat) : Nat := tlen (joins (J.take q)) (jAt J q).f
def w8posB (J : List Jn) (q : Nat) : Nat := tlen (joins (J.take q)) (jAt J q).t
theorem jAt_mem {J : List Jn} {q : Nat} (h : q < J.length) : jAt J q ∈ J := by
  unfold jAt
  rw [List.getD_eq_getElem?_getD, List.getElem?_eq_getElem h]
  exact List.getElem_mem h
section
variable {J : List Jn} {j : Jn} {q k : Nat}
theorem jAt_old (h : q < J.length) : jAt (J ++ [j]) q = jAt J q := by unfold jAt; rw [getD_snoc', if_pos h]
theorem jAt_new : jAt (J ++ [j]) J.length = j := by unfold jAt; rw [getD_snoc', if_neg (by omega), if_pos rfl]
theorem posF_old (h : q < J.length) : posF (J ++ [j]) q = posF J q := by unfold posF; rw [jAt_old h, List.take_append_of_le_length (by omega)]
theorem posB_old (h : q < J.length) : w8posB (J ++ [j]) q = w8posB J q := by unfold w8posB; rw [jAt_old h, List.take_append_of_le_length (by omega)]
theorem posF_new : posF (J ++ [j]) J.length = tlen (joins J) j.f := by unfold posF; rw [jAt_new, List.take_append_of_le_length (Nat.le_refl _), List.take_length]
theorem posB_new : w8posB (J ++ [j]) J.length = tlen (joins J) j.t := by unfold w8posB; rw [jAt_new, List.take_append_of_le_length (Nat.le_refl _), List.take_length]
theorem ent_sum {G : Nat → Nat → Int} : ∀ J : List Jn, (∀ j ∈ J, j.f ≠ j.t ∧ j.f < k ∧ j.t < k) → sm (fun i => sm (fun j => G i j) (tlen (joins J) i)) k = sm (fun q => G (jAt J q).f (posF J q) + G (jAt J q).t (w8posB J q)) J.length :=
  snoc_ind (fun _ => sm_zero fun i _ => rfl) fun J j ih hJ => by
    obtain ⟨h1, h2, h3⟩ := hJ j (List.mem_append_right _ (by simp))
    rw [List.length_append]
    show _ = sm _ J.length + (G (jAt (J ++ [j]) J.length).f (posF (J ++ [j]) J.length) + G (jAt (J ++ [j]) J.length).t (w8posB (J ++ [j]) J.length))
    rw [jAt_new, posF_new, posB_new, sm_congr (n := J.length) (g := fun q => G (jAt J q).f (posF J q) + G (jAt J q).t (w8posB J q)) (fun q hq => by rw [jAt_old hq, posF_old hq, posB_old hq]), ← ih (fun x hx => hJ x (List.mem_append_left _ hx)), joins_snoc]
    have hrow : ∀ i, i < k → sm (fun j => G i j) (tlen (joinT (joins J) j.f j.t j.room j.mv) i) = sm (fun j => G i j) (tlen (joins J) i) + ((if i = j.f then G j.f (tlen (joins J) j.f) else 0) + (if i = j.t then G j.t (tlen (joins J) j.t) else 0)) := fun i _ => by
      rw [join_len h1]
      by_cases e1 : i = j.f
      · subst e1
        rw [if_pos rfl, if_neg h1, if_pos rfl, if_neg h1]
        show sm (fun m => G j.f m) (tlen (joins J) j.f) + G j.f (tlen (joins J) j.f) = _
        omega
      · by_cases e2 : i = j.t
        · subst e2
          rw [if_neg e1, if_pos rfl, if_neg e1, if_pos rfl, Nat.add_zero]
          show sm (fun m => G j.t m) (tlen (joins J) j.t) + G j.t (tlen (joins J) j.t) = _
          omega
        · rw [if_neg e1, if_neg e2, if_neg e1, if_neg e2]
          simp only [Nat.add_zero, Int.add_zero]
    rw [sm_congr hrow, sm_add, sm_add, sm_single h2 (fun i _ hne => if_neg hne), sm_single h3 (fun i _ hne => if_neg hne), if_pos rfl, if_pos rfl]
theorem ent_at : ∀ J : List Jn, (∀ j ∈ J, j.f ≠ j.t) → ∀ q, q < J.length → (entAt (joins J) (jAt J q).f (posF J q) = ⟨(jAt J q).t, (jAt J q).room, w8posB J q, (jAt J q).mv⟩ ∧ entAt (joins J) (jAt J q).t (w8posB J q) = ⟨(jAt J q).f, 0, posF J q, Mv.none⟩) ∧ posF J q < tlen (joins J) (jAt J q).f ∧ w8posB J q < tlen (joins J) (jAt J q).t :=
  snoc_ind (fun _ q hq => absurd hq (Nat.not_lt_zero q)) fun J j ih hJ q hq => by
    have h1 := hJ j (List.mem_append_right _ (by simp))
    have h1' : ¬ (j.t = j.f ∧ tlen (joins J) j.t = tlen (joins J) j.f) := fun h => h1 h.1.symm
    rw [List.length_append] at hq
    have hq : q < J.length + 1 := hq
    rw [joins_snoc]
    by_cases e : q = J.length
    · subst e
      rw [jAt_new, posF_new, posB_new, join_at h1, join_at h1, if_pos ⟨rfl, rfl⟩, if_neg h1', if_pos ⟨rfl, rfl⟩, join_len h1, join_len h1, if_pos rfl, if_neg h1, if_neg (fun e => h1 e.symm), if_pos rfl]
      exact ⟨⟨rfl, rfl⟩, by omega, by omega⟩
    · have hq' : q < J.length := by omega
      obtain ⟨⟨a1, a2⟩, a3, a4⟩ := ih (fun x hx => hJ x (List.mem_append_left _ hx)) q hq'
      rw [jAt_old hq', posF_old hq', posB_old hq']
      have old : ∀ i m, m < tlen (joins J) i → entAt (joinT (joins J) j.f j.t j.room j.mv) i m = entAt (joins J) i m := fun i m hm => by
        rw [join_at h1, if_neg (fun h => by rw [h.1, h.2] at hm; omega), if_neg (fun h => by rw [h.1, h.2] at hm; omega)]
      rw [old _ _ a3, old _ _ a4, join_len h1, join_len h1]
      exact ⟨⟨a1, a2⟩, by omega, by omega⟩
end
/-- What flows along an edge. -/
def flw (J : List Jn) (r : RM) (q : Nat) : Int := r (jAt J q).t (w8posB J q)
/-- What an edge carries across a set. -/
def zq (S : Nat → Bool) (J : List Jn) (r : RM) (q : Nat) : Int := (if S (jAt J q).f = true ∧ S (jAt J q).t = false then flw J r q else 0) - (if S (jAt J q).t = true ∧ S (jAt J q).f = false then flw J r q else 0)
section
variable {J : List Jn} {k b x : Nat} {r : RM} {v : Int}
theorem flw_bd (hJ : ∀ j ∈ J, j.f ≠ j.t ∧ j.f < k ∧ j.t < k) (h : Fl ((joins J).net k) (joins J).room r b x v) {q : Nat} (hq : q < J.length) : (0 ≤ flw J r q ∧ flw J r q ≤ (jAt J q).room) ∧ r (jAt J q).f (posF J q) = (jAt J q).room - flw J r q := by
  obtain ⟨⟨a1, a2⟩, a3, a4⟩ := ent_at J (fun j hj => (hJ j hj).1) q hq
  obtain ⟨h1, h2, h3⟩ := hJ _ (jAt_mem hq)
  have hp := h.pair (jAt J q).f h2 (posF J q) a3
  have e1 : ((joins J).net k).to (jAt J q).f (posF J q) = (jAt J q).t := congrArg Ent.to a1
  have e2 : ((joins J).net k).back (jAt J q).f (posF J q) = w8posB J q := congrArg Ent.back a1
  have e3 : (joins J).room (jAt J q).f (posF J q) = (jAt J q).room := congrArg Ent.room a1
  have e4 : (joins J).room (jAt J q).t (w8posB J q) = 0 := congrArg Ent.room a2
  rw [e1, e2, e3, e4] at hp
  have n1 := h.nn (jAt J q).t h3 (w8posB J q) a4
  have n2 := h.nn (jAt J q).f h2 (posF J q) a3
  unfold flw
  omega
/-- What flows out of a set. -/
theorem flow_cut (hJ : ∀ j ∈ J, j.f ≠ j.t ∧ j.f < k ∧ j.t < k) (h : Fl ((joins J).net k) (joins J).room r b x v) (S : Nat → Bool) : sm (zq S J r) J.length = v * (ind S b - ind S x) := by
  have h1 := h.cut S
  have form : ∀ r' : RM, resid ((joins J).net k) r' S = sm (fun q => (if S (jAt J q).f = true ∧ S (jAt J q).t = false then r' (jAt J q).f (posF J q) else 0) + (if S (jAt J q).t = true ∧ S (jAt J q).f = false then r' (jAt J q).t (w8posB J q) else 0)) J.length := fun r' => by
    unfold resid
    have h2 := ent_sum (k := k) (G := fun i j => if S i = true ∧ S (((joins J).net k).to i j) = false then r' i j else 0) J hJ
    refine Eq.trans h2 (sm_congr fun q hq => ?_)
    obtain ⟨⟨a1, a2⟩, a3, a4⟩ := ent_at J (fun j hj => (hJ j hj).1) q hq
    have e1 : ((joins J).net k).to (jAt J q).f (posF J q) = (jAt J q).t := congrArg Ent.to a1
    have e2 : ((joins J).net k).to (jAt J q).t (w8posB J q) = (jAt J q).f := congrArg Ent.to a2
    rw [e1, e2]
  rw [form r, form (joins J).room] at h1
  have h3 : sm (fun q => (if S (jAt J q).f = true ∧ S (jAt J q).t = false then r (jAt J q).f (posF J q) else 0) + (if S (jAt J q).t = true ∧ S (jAt J q).f = false then r (jAt J q).t (w8posB J q) else 0)) J.length + sm (zq S J r) J.length =
      sm (fun q => (if S (jAt J q).f = true ∧ S (jAt J q).t = false then (joins J).room (jAt J q).f (posF J q) else 0) + (if S (jAt J q).t = true ∧ S (jAt J q).f = false then (joins J).room (jAt J q).t (w8posB J q) else 0)) J.length := by
    rw [← sm_add]
    refine sm_congr fun q hq => ?_
    obtain ⟨⟨a1, a2⟩, a3, a4⟩ := ent_at J (fun j hj => (hJ j hj).1) q hq
    have e3 : (joins J).room (jAt J q).f (posF J q) = (jAt J q).room := congrArg Ent.room a1
    have e4 : (joins J).room (jAt J q).t (w8posB J q) = 0 := congrArg Ent.room a2
    have h4 := (flw_bd hJ h hq).2
    rw [e3, e4, h4]
    unfold zq flw
    split <;> split <;> omega
  omega
end

/-! ## the plan -/
/-- What an edge tells: nothing, or a move. -/
def plOne (N : Net) (r : RM) (mv : Nat → Nat → Mv) (i j : Nat) : List Mv := if 0 ≤ (mv i j).pas ∧ 0 < r (N.to i j) (N.back i j) then [⟨(mv i j).pas, (mv i j).fr, (mv i j).at_, r (N.to i j) (N.back i j)⟩] else []
def plRow (N : Net) (r : RM) (mv : Nat → Nat → Mv) (i : Nat) : Nat → List Mv
  | 0 => []
  | j + 1 => plRow N r mv i j ++ plOne N r mv i j
def plAll (N : Net) (r : RM) (mv : Nat → Nat → Mv) : Nat → List Mv
  | 0 => []
  | i + 1 => plAll N r mv i ++ plRow N r mv i (N.n i)
section
variable {N : Net} {r : RM} {mv : Nat → Nat → Mv} {F : Mv → Int}
theorem plRow_sum {i : Nat} : ∀ j, lS F (plRow N r mv i j) = sm (fun j => lS F (plOne N r mv i j)) j := by
  intro j
  induction j with
  | zero => rfl
  | succ j ih => rw [plRow, lS_append, ih]; rfl
theorem plAll_sum : ∀ i, lS F (plAll N r mv i) = sm (fun i => sm (fun j => lS F (plOne N r mv i j)) (N.n i)) i := by
  intro i
  induction i with
  | zero => rfl
  | succ i ih => rw [plAll, lS_append, ih, plRow_sum]; rfl
end
section
variable {J : List Jn} {k b x : Nat} {r : RM} {v : Int} {F : Mv → Int}
def plQ (J : List Jn) (r : RM) (q : Nat) : Mv := ⟨(jAt J q).mv.pas, (jAt J q).mv.fr, (jAt J q).mv.at_, flw J r q⟩
theorem plan_sum (hJ : ∀ j ∈ J, j.f ≠ j.t ∧ j.f < k ∧ j.t < k) : lS F (plAll ((joins J).net k) r (joins J).mv k) = sm (fun q => if 0 ≤ (jAt J q).mv.pas ∧ 0 < flw J r q then F (plQ J r q) else 0) J.length := by
  rw [plAll_sum]
  refine Eq.trans (ent_sum (k := k) (G := fun i j => lS F (plOne ((joins J).net k) r (joins J).mv i j)) J hJ) (sm_congr fun q hq => ?_)
  obtain ⟨⟨a1, a2⟩, a3, a4⟩ := ent_at J (fun j hj => (hJ j hj).1) q hq
  have e1 : ((joins J).net k).to (jAt J q).f (posF J q) = (jAt J q).t := congrArg Ent.to a1
  have e2 : ((joins J).net k).back (jAt J q).f (posF J q) = w8posB J q := congrArg Ent.back a1
  have e3 : (joins J).mv (jAt J q).f (posF J q) = (jAt J q).mv := congrArg Ent.mv a1
  have e4 : (joins J).mv (jAt J q).t (w8posB J q) = Mv.none := congrArg Ent.mv a2
  unfold plOne
  rw [e1, e2, e3, e4, if_neg (c := 0 ≤ Mv.none.pas ∧ _) (fun h => absurd h.1 (by decide))]
  unfold plQ flw
  split
  · rw [lS, lS, lS]; omega
  · rw [lS]; rfl
theorem lS_ge {α : Type} {F : α → Int} {l : List α} (h : ∀ a, 0 ≤ F a) : 0 ≤ lS F l := by
  induction l with
  | nil => exact Int.le_refl 0
  | cons a l ih => have := h a; rw [lS]; omega
theorem lS_all {α : Type} {F : α → Int} {l : List α} (h : ∀ a, 0 ≤ F a) (hs : lS F l = 0) : ∀ a ∈ l, F a = 0 := by
  induction l with
  | nil => intro a ha; cases ha
  | cons a l ih =>
    rw [lS] at hs
    have h1 := h a
    have h2 := lS_ge (l := l) h
    intro x hx
    rcases List.mem_cons.1 hx with rfl | hx
    · omega
    · exact ih (by omega) x hx
theorem plan_mem (hJ : ∀ j ∈ J, j.f ≠ j.t ∧ j.f < k ∧ j.t < k) {Q : Mv → Prop} (hQ : ∀ q, q < J.length → 0 ≤ (jAt J q).mv.pas → 0 < flw J r q → Q (plQ J r q)) : ∀ m ∈ plAll ((joins J).net k) r (joins J).mv k, Q m := by
  classical
  have h1 := plan_sum (r := r) (F := fun m => if Q m then 0 else 1) hJ
  rw [sm_zero (fun q hq => by
    split
    · rename_i h; exact if_pos (hQ q hq h.1 h.2)
    · rfl)] at h1
  intro m hm
  have h2 := lS_all (F := fun m => if Q m then (0 : Int) else 1) (fun a => by split <;> omega) h1 m hm
  refine Classical.byContradiction fun hno => ?_
  rw [if_neg hno] at h2
  cases h2
end

/-! ## at the station -/
/-- What a heading is, in the document's words. -/
structure HdF (P : Nat) (ps : List Psg) (xs : List Int) (out : Int) (h : Hd) : Prop where
  pas : 0 ≤ h.pas ∧ h.pas < ps.length
  gone : goneI out (ps.getD h.pas.toNat Psg.zero) h.fr = h.ticks
  to : othr (ps.getD h.pas.toNat Psg.zero) h.fr = h.to
  ex : hasI xs h.fr = false
  wide : h.wide = (ps.getD h.pas.toNat Psg.zero).wide
section
variable {P T : Nat} {ps : List Psg} {xs : List Int} {out : Int} {pe : List Int} {v : Int} {r : RM} {L : Nat → Int}
theorem hds_facts (V : StV P ps xs) (ho : 0 ≤ out) : ∀ h ∈ hds out xs ps, HdF P ps xs out h := by
  have key : ∀ n, n ≤ ps.length → ∀ h ∈ hdsTo out xs ps n, HdF P ps xs out h := by
    intro n
    induction n with
    | zero => intro _ h hh; cases hh
    | succ n ih =>
      intro hn h hh
      rcases List.mem_append.1 hh with hh | hh
      · exact ih (by omega) h hh
      · have hp := psgOk_iff.1 (V.pas n (by omega))
        have bt : bitI out (ps.getD n Psg.zero).mach = 0 ∨ bitI out (ps.getD n Psg.zero).mach = 1 := by unfold bitI; omega
        unfold hdsOf hdsA hdsB at hh
        split at hh
        · cases hh
        · rename_i h4
          rcases List.mem_append.1 hh with hh | hh
          · split at hh
            · cases hh
            · rename_i hx
              rw [List.mem_singleton.1 hh]
              refine ⟨⟨by show (0 : Int) ≤ (n : Int); omega, by show (n : Int) < _; omega⟩, ?_, ?_, by simpa using hx, rfl⟩
              · show goneI out (ps.getD (n : Int).toNat Psg.zero) _ = hdTicks out _
                rw [Int.toNat_natCast]
                have ho : othr (ps.getD n Psg.zero) (ps.getD n Psg.zero).a = (ps.getD n Psg.zero).b := if_pos rfl
                unfold goneI hdTicks
                rw [ho, if_neg (by omega)]
                by_cases h5 : (ps.getD n Psg.zero).kind = 3 ∧ bitI out (ps.getD n Psg.zero).mach = 1
                · rw [if_pos h5, if_pos ⟨h5.1, by omega⟩]
                · rw [if_neg h5, if_neg (fun h => by have h9 := h.2; dsimp only at h9; omega), if_neg (fun h => h5 ⟨h.1, by have := h.2; omega⟩)]
              · show othr (ps.getD (n : Int).toNat Psg.zero) _ = _
                rw [Int.toNat_natCast]
                exact if_pos rfl
          · split at hh
            · rename_i hx
              rw [List.mem_singleton.1 hh]
              rw [Bool.and_eq_true, Bool.not_eq_true'] at hx
              have ho : othr (ps.getD n Psg.zero) (ps.getD n Psg.zero).b = (ps.getD n Psg.zero).a := by unfold othr; rw [if_neg (by omega), if_pos rfl]
              refine ⟨⟨by show (0 : Int) ≤ (n : Int); omega, by show (n : Int) < _; omega⟩, ?_, ?_, hx.2, rfl⟩
              · show goneI out (ps.getD (n : Int).toNat Psg.zero) _ = hdTicks out _
                rw [Int.toNat_natCast]
                have hb : ¬ ((ps.getD n Psg.zero).kind = 3 ∧ bitI out (ps.getD n Psg.zero).mach = 0) := fun h => by
                  have := hx.1
                  unfold hdBack at this
                  rw [decide_eq_true h.1, decide_eq_true h.2] at this
                  cases this
                unfold goneI hdTicks
                rw [ho, if_neg (by omega)]
                by_cases h5 : (ps.getD n Psg.zero).kind = 3 ∧ bitI out (ps.getD n Psg.zero).mach = 1
                · rw [if_pos h5, if_pos ⟨h5.1, by omega⟩]
                · rw [if_neg h5, if_neg (fun h => hb ⟨h.1, by have : ¬ bitI out (ps.getD n Psg.zero).mach = 1 := fun e => h5 ⟨h.1, e⟩; omega⟩), if_neg (fun h => h5 ⟨h.1, by have := h.2; omega⟩)]
              · show othr (ps.getD (n : Int).toNat Psg.zero) _ = _
                rw [Int.toNat_natCast]
                exact ho
            · cases hh
  exact key _ (Nat.le_refl _)
/-- Each passage and place has w8one heading. -/
theorem hds_key (V : StV P ps xs) {pas fr : Int} (h0 : 0 ≤ pas ∧ pas < ps.length) : lS (fun h => if h.pas = pas ∧ h.fr = fr then h.wide else 0) (hds out xs ps) ≤ (ps.getD pas.toNat Psg.zero).wide := by
  have hw0 : 0 ≤ (ps.getD pas.toNat Psg.zero).wide := by have := psgOk_iff.1 (V.pas pas.toNat (by omega)); omega
  have key : ∀ n, n ≤ ps.length → lS (fun h => if h.pas = pas ∧ h.fr = fr then h.wide else 0) (hdsTo out xs ps n) ≤ if pas < n then (ps.getD pas.toNat Psg.zero).wide else 0 := by
    intro n
    induction n with
    | zero => intro _; rw [if_neg (by omega)]; exact Int.le_refl 0
    | succ n ih =>
      intro hn
      have h1 := ih (by omega)
      have hp := psgOk_iff.1 (V.pas n (by omega))
      rw [hdsTo, lS_append]
      by_cases e : pas = n
      · rw [if_neg (by omega)] at h1
        rw [if_pos (by omega)]
        have e2 : pas.toNat = n := by omega
        rw [e2]
        have h2 : lS (fun h : Hd => if h.pas = pas ∧ h.fr = fr then h.wide else 0) (hdsOf out xs n (ps.getD n Psg.zero)) ≤ (ps.getD n Psg.zero).wide := by
          rw [e2] at hw0
          unfold hdsOf
          split
          · exact hw0
          · have hA : lS (fun h : Hd => if h.pas = pas ∧ h.fr = fr then h.wide else 0) (hdsA out xs n (ps.getD n Psg.zero)) ≤ if (ps.getD n Psg.zero).a = fr then (ps.getD n Psg.zero).wide else 0 := by
              unfold hdsA
              split
              · rw [lS]; split <;> omega
              · rw [lS, lS]
                show (if (n : Int) = pas ∧ (ps.getD n Psg.zero).a = fr then (ps.getD n Psg.zero).wide else 0) + 0 ≤ _
                by_cases h : (ps.getD n Psg.zero).a = fr
                · rw [if_pos h, if_pos ⟨by omega, h⟩]; omega
                · rw [if_neg h, if_neg (fun h' => h h'.2)]; omega
            have hB : lS (fun h : Hd => if h.pas = pas ∧ h.fr = fr then h.wide else 0) (hdsB out xs n (ps.getD n Psg.zero)) ≤ if (ps.getD n Psg.zero).b = fr then (ps.getD n Psg.zero).wide else 0 := by
              unfold hdsB
              split
              · rw [lS, lS]
                show (if (n : Int) = pas ∧ (ps.getD n Psg.zero).b = fr then (ps.getD n Psg.zero).wide else 0) + 0 ≤ _
                by_cases h : (ps.getD n Psg.zero).b = fr
                · rw [if_pos h, if_pos ⟨by omega, h⟩]; omega
                · rw [if_neg h, if_neg (fun h' => h h'.2)]; omega
              · rw [lS]; split <;> omega
            rw [lS_append]
            by_cases h : (ps.getD n Psg.zero).a = fr
            · rw [if_pos h] at hA
              rw [if_neg (by omega)] at hB
              omega
            · rw [if_neg h] at hA
              split at hB <;> omega
        omega
      · have h2 : lS (fun h : Hd => if h.pas = pas ∧ h.fr = fr then h.wide else 0) (hdsOf out xs n (ps.getD n Psg.zero)) = 0 := by
          refine lS_zero fun h hh => if_neg fun h' => e ?_
          have : h.pas = n := by
            unfold hdsOf hdsA hdsB at hh
            split at hh
            · cases hh
            · rcases List.mem_append.1 hh with hh | hh
              · split at hh
                · cases hh
                · rw [List.mem_singleton.1 hh]
              · split at hh
                · rw [List.mem_singleton.1 hh]
                · cases hh
          omega
        rw [h2]
        have e3 : (pas < (n + 1 : Nat)) ↔ pas < (n : Nat) := by omega
        simp only [e3]
        omega
  have h1 := key ps.length (Nat.le_refl _)
  rw [if_pos h0.2] at h1
  exact h1
/-- An edge of the net: of a place, or a heading's. -/
theorem jAll_of (V : StV P ps xs) (ho : 0 ≤ out) {j : Jn} (hj : j ∈ jAll P T pe xs (hds out xs ps)) : (j ∈ jPlaces P T pe xs P ∧ j.mv = Mv.none) ∨ ∃ h t, j = jHead P h t ∧ HdF P ps xs out h ∧ HdOk P h ∧ t + h.ticks.toNat ≤ T := by
  unfold jAll at hj
  rcases List.mem_append.1 hj with hj | hj
  · left
    refine ⟨hj, ?_⟩
    have key : ∀ n, j ∈ jPlaces P T pe xs n → j.mv = Mv.none := by
      intro n
      induction n with
      | zero => intro h; cases h
      | succ n ih =>
        intro h
        rcases List.mem_append.1 h with h | h
        · exact ih h
        · unfold jPlace jWaits jExits at h
          rcases List.mem_cons.1 h with rfl | h
          · rfl
          · rcases List.mem_append.1 h with h | h
            · obtain ⟨t, _, rfl⟩ := List.mem_map.1 h; rfl
            · split at h
              · obtain ⟨t, _, rfl⟩ := List.mem_map.1 h; rfl
              · cases h
    exact key P hj
  · right
    have key : ∀ n, n ≤ (hds out xs ps).length → j ∈ jHeads P T (hds out xs ps) n → ∃ h t, j = jHead P h t ∧ HdF P ps xs out h ∧ HdOk P h ∧ t + h.ticks.toNat ≤ T := by
      intro n
      induction n with
      | zero => intro _ h; cases h
      | succ n ih =>
        intro hn h
        rcases List.mem_append.1 h with h | h
        · exact ih (by omega) h
        · obtain ⟨t, ht, rfl⟩ := List.mem_map.1 h
          have hok := hds_ok (out := out) V n (by omega)
          refine ⟨_, t, rfl, hds_facts V ho _ ?_, hok, ?_⟩
          · rw [List.getD_eq_getElem?_getD, List.getElem?_eq_getElem (by omega)]; exact List.getElem_mem _
          · have := List.mem_range.1 ht
            unfold HdOk at hok
            omega
    exact key _ (Nat.le_refl _) hj
theorem jAll_J (V : StV P ps xs) : ∀ j ∈ jAll P T pe xs (hds out xs ps), j.f ≠ j.t ∧ j.f < P * (T + 1) + 2 ∧ j.t < P * (T + 1) + 2 := fun j hj => by
  rcases List.mem_append.1 hj with hj | hj
  · exact jPlaces_ok (Nat.le_refl _) j hj
  · exact jHeads_ok (hds_ok V) (Nat.le_refl _) j hj
/-- A sum over the edges of the places that only counts those from the beginning. -/
theorem places_sum {D : Jn → Int} (h0 : ∀ j : Jn, j.f < P * (T + 1) → D j = 0) : ∀ n, n ≤ P → lS D (jPlaces P T pe xs n) = sm (fun p => D (jBeg P T pe p)) n := by
  intro n
  induction n with
  | zero => intro _; rfl
  | succ n ih =>
    intro hn
    rw [jPlaces, lS_append, ih (by omega)]
    show _ = sm _ n + D (jBeg P T pe n)
    congr 1
    unfold jPlace
    rw [lS, lS_zero, Int.add_zero]
    intro j hj
    unfold jWaits jExits at hj
    rcases List.mem_append.1 hj with hj | hj
    · obtain ⟨t, ht, rfl⟩ := List.mem_map.1 hj
      exact h0 _ (nd_lt (by have := List.mem_range.1 ht; omega) (by omega))
    · split at hj
      · obtain ⟨t, ht, rfl⟩ := List.mem_map.1 hj
        exact h0 _ (nd_lt (by have := List.mem_range.1 ht; omega) (by omega))
      · cases hj
theorem heads_sum {D : Jn → Int} (h0 : ∀ j : Jn, j.f < P * (T + 1) → D j = 0) (V : StV P ps xs) : lS D (jHeads P T (hds out xs ps) (hds out xs ps).length) = 0 := by
  refine lS_zero fun j hj => h0 j ?_
  have key : ∀ n, n ≤ (hds out xs ps).length → j ∈ jHeads P T (hds out xs ps) n → j.f < P * (T + 1) := by
    intro n
    induction n with
    | zero => intro _ h; cases h
    | succ n ih =>
      intro hn h
      rcases List.mem_append.1 h with h | h
      · exact ih (by omega) h
      · obtain ⟨t, ht, rfl⟩ := List.mem_map.1 h
        have hok := hds_ok (out := out) V n (by omega)
        unfold HdOk at hok
        exact nd_lt (by have := List.mem_range.1 ht; omega) (by omega)
  exact key _ (Nat.le_refl _) hj
/-- An edge of a place: from the beginning, on to the next tick, or to the outside from an exit. -/
theorem place_of {j : Jn} (hj : j ∈ jPlaces P T pe xs P) : (∃ p, p < P ∧ j = jBeg P T pe p) ∨ (∃ p t, p < P ∧ t < T ∧ j = jWait P p t) ∨ ∃ p t, p < P ∧ t ≤ T ∧ hasI xs p = true ∧ j = jExit P T p t := by
  have key : ∀ n, n ≤ P → j ∈ jPlaces P T pe xs n → (∃ p, p < P ∧ j = jBeg P T pe p) ∨ (∃ p t, p < P ∧ t < T ∧ j = jWait P p t) ∨ ∃ p t, p < P ∧ t ≤ T ∧ hasI xs p = true ∧ j = jExit P T p t := by
    intro n
    induction n with
    | zero => intro _ h; cases h
    | succ n ih =>
      intro hn h
      rcases List.mem_append.1 h with h | h
      · exact ih (by omega) h
      · unfold jPlace jWaits jExits at h
        rcases List.mem_cons.1 h with rfl | h
        · exact .inl ⟨n, by omega, rfl⟩
        · rcases List.mem_append.1 h with h | h
          · obtain ⟨t, ht, rfl⟩ := List.mem_map.1 h
            exact .inr (.inl ⟨n, t, by omega, List.mem_range.1 ht, rfl⟩)
          · split at h
            · rename_i hx
              obtain ⟨t, ht, rfl⟩ := List.mem_map.1 h
              exact .inr (.inr ⟨n, t, by omega, by have := List.mem_range.1 ht; omega, hx, rfl⟩)
            · cases h
  exact key P (Nat.le_refl _) hj
/-- A set of places and ticks, in the net. -/
def setQ (P T : Nat) (b : Bool) (U : Nat → Nat → Bool) (n : Nat) : Bool := if n < P * (T + 1) then U (n % P) (n / P) else (b && decide (n = P * (T + 1)))
theorem setQ_nd {b : Bool} {U : Nat → Nat → Bool} {p t : Nat} (hp : p < P) (ht : t ≤ T) : setQ P T b U (nd P t p) = U p t := by
  unfold setQ
  rw [if_pos (nd_lt ht hp)]
  have h1 : nd P t p % P = p := by unfold nd; rw [Nat.mul_add_mod, Nat.mod_eq_of_lt hp]
  have h2 : nd P t p / P = t := by unfold nd; rw [Nat.mul_add_div (by omega), Nat.div_eq_of_lt hp]; rfl
  rw [h1, h2]
theorem setQ_b {b : Bool} {U : Nat → Nat → Bool} : setQ P T b U (P * (T + 1)) = b := by unfold setQ; rw [if_neg (by omega), decide_eq_true rfl, Bool.and_true]
theorem setQ_x {b : Bool} {U : Nat → Nat → Bool} : setQ P T b U (P * (T + 1) + 1) = false := by unfold setQ; rw [if_neg (by omega), decide_eq_false (by omega), Bool.and_false]
end
end Go.Proofs.Ytdepakimbagonaa
