/- Chapter 8: nets in general: levels, a full flow; the document's net: a flat list of edges, and the numbers of those of each node. -/
import Derived.Test.YtlmddkekeoebcaaE4
namespace Go.Proofs.Ytlmddkekeoebcaa
set_option linter.unusedVariables false
set_option linter.unusedSimpArgs false

/-! ## a full flow in any net -/
structure EndN (N : Net) (r0 : RM) (b x : Nat) (v : Int) (r : RM) (L : Nat → Int) : Prop where
  fl : Fl N r0 r b x v
  nn : 0 ≤ v
  lev : LevOk N r b L
  full : L x < 0
section
variable {N : Net} {r r0 r1 r2 : RM} {b x u : Nat} {v v' m B : Int} {L L' : Nat → Int}
theorem resid_congr {S : Nat → Bool} (h : ∀ i, i < N.k → ∀ j, j < N.n i → r2 i j = r1 i j) : resid N r2 S = resid N r1 S := sm_congr fun i hi => sm_congr fun j hj => by rw [h i hi j hj]
theorem Fl.congr (W : N.Wf) (h : Fl N r r1 u x m) (e : ∀ i, i < N.k → ∀ j, j < N.n i → r2 i j = r1 i j) : Fl N r r2 u x m :=
  ⟨fun S => by rw [resid_congr e]; exact h.cut S, fun i hi j hj => by rw [e i hi j hj, e _ (W.to_lt i hi j hj) _ (W.bk_lt i hi j hj)]; exact h.pair i hi j hj, fun i hi j hj => by rw [e i hi j hj]; exact h.nn i hi j hj⟩
theorem ind_bx {S : Nat → Bool} (hb : S b = true) (hx : S x = false) : ind S b - ind S x = 1 := by unfold ind; rw [hb, hx]; rfl
theorem EndN.bound (O : Ok N r0 B) (h : EndN N r0 b x v r L) {S : Nat → Bool} (hb : S b = true) (hx : S x = false) : v ≤ resid N r0 S := by
  have h1 := resid_nn (S := S) (h.fl.ok O)
  rw [h.fl.cut, ind_bx hb hx] at h1
  omega
theorem EndN.tight (h : EndN N r0 b x v r L) : reached L b = true ∧ reached L x = false ∧ resid N r0 (reached L) = v := by
  have hb : reached L b = true := by unfold reached; rw [h.lev.b0]; rfl
  have hx : reached L x = false := by unfold reached; rw [decide_eq_false_iff_not]; have := h.full; omega
  refine ⟨hb, hx, ?_⟩
  have h0 : resid N r (reached L) = 0 := sm_zero fun i hi => sm_zero fun j hj => by
    split
    · rename_i hc
      obtain ⟨h1, h2⟩ := hc
      unfold reached at h1 h2
      simp only [decide_eq_true_eq, decide_eq_false_iff_not] at h1 h2
      have h3 := h.fl.nn i hi j hj
      by_cases h4 : 0 < r i j
      · exact absurd (h.lev.cl i hi h1 j hj h4) h2
      · omega
    · rfl
  rw [h.fl.cut, ind_bx hb hx] at h0
  omega
theorem EndN.inside (h : EndN N r0 b x v r L) {S : Nat → Bool} (hb : S b = true) (hx : S x = false) (hc : resid N r0 S = v) : ∀ u, u < N.k → 0 ≤ L u → S u = true := by
  have h0 : resid N r S = 0 := by rw [h.fl.cut, ind_bx hb hx]; omega
  exact h.lev.least hb (resid_zero h.fl.nn h0)
/-- Levels there are. -/
theorem lev_ex (W : N.Wf) (hb : b < N.k) : ∃ L, LevOk N r b L := by
  have row : ∀ (L : Nat → Int) (q : Nat → Nat) (ql h : Nat), Bfs N r b L q ql h 0 → h < ql → ∃ L' q' ql', Bfs N r b L' q' ql' (h + 1) 0 := by
    intro L q ql h hB hh
    have key : ∀ J, J ≤ N.n (q h) → ∃ L' q' ql', Bfs N r b L' q' ql' h J ∧ q' h = q h ∧ h < ql' := by
      intro J
      induction J with
      | zero => intro _; exact ⟨L, q, ql, hB, rfl, hh⟩
      | succ J ih =>
        intro hJ
        obtain ⟨L', q', ql', hB', he, hl⟩ := ih (by omega)
        by_cases hc : 0 < r (q' h) J ∧ L' (N.to (q' h) J) < 0
        · exact ⟨_, _, _, hB'.visit W hl (by rw [he]; omega) hc.1 hc.2, by rw [upd_ne _ _ (by omega)]; exact he, by omega⟩
        · exact ⟨_, _, _, hB'.skip hc, he, hl⟩
    obtain ⟨L', q', ql', hB', he, _⟩ := key (N.n (q h)) (Nat.le_refl _)
    exact ⟨L', q', ql', hB'.next (by rw [he]; omega)⟩
  have key : ∀ (d h : Nat) (L : Nat → Int) (q : Nat → Nat) (ql : Nat), Bfs N r b L q ql h 0 → N.k - h ≤ d → ∃ L, LevOk N r b L := by
    intro d
    induction d with
    | zero => intro h L q ql hB hd; exact ⟨L, hB.done (by have := hB.le; omega)⟩
    | succ d ih =>
      intro h L q ql hB hd
      by_cases hq : ql ≤ h
      · exact ⟨L, hB.done hq⟩
      · obtain ⟨L', q', ql', hB'⟩ := row L q ql h hB (by omega)
        exact ih (h + 1) L' q' ql' hB' (by have := hB.le; omega)
  exact key _ 0 _ _ 1 (Bfs.start (L := fun v => if v = b then 0 else -1) (q := fun _ => b) hb (fun _ _ => rfl) rfl) (Nat.le_refl _)
/-- One more along a way. -/
theorem push_one (W : N.Wf) (O : Ok N r B) (hp : Path N r L x u) : u < N.k → ∃ r', Fl N r r' u x 1 ∧ ∀ i, i < N.k → ∀ q, q < N.n i → L i < L u → r' i q = r i q := by
  induction hp with
  | stop => intro _; exact ⟨r, Fl.here O, fun _ _ _ _ _ => rfl⟩
  | @step u j hj hr hl _ ih =>
    intro hu
    obtain ⟨r', hF, hlow⟩ := ih (W.to_lt u hu j hj)
    have e := hlow u hu j hj (by omega)
    refine ⟨along N r' u j 1, Fl.step W hu hj hF (by omega) (by omega), fun i hi q hq hL => ?_⟩
    rw [along_ne (fun h => by rw [h.1] at hL; omega) (fun h => by rw [h.1] at hL; omega)]
    exact hlow i hi q hq (by omega)
/-- A full flow there is. -/
theorem end_ex (W : N.Wf) (O : Ok N r0 B) (hb : b < N.k) (hx : x < N.k) (hbx : b ≠ x) : ∃ v r L, EndN N r0 b x v r L := by
  have bnd : ∀ {v r}, Fl N r0 r b x v → v ≤ resid N r0 (fun v => decide (v = b)) := fun {v r} hF => by
    have h1 := resid_nn (S := fun v => decide (v = b)) (hF.ok O)
    rw [hF.cut, ind_bx (by simp) (by simp; exact fun e => hbx e.symm)] at h1
    omega
  have key : ∀ (d : Nat) (v : Int) (r : RM), Fl N r0 r b x v → 0 ≤ v → (resid N r0 (fun v => decide (v = b)) - v).toNat ≤ d → ∃ v r L, EndN N r0 b x v r L := by
    intro d
    induction d with
    | zero =>
      intro v r hF h0 hd
      obtain ⟨L, hL⟩ := lev_ex (r := r) W hb
      by_cases hf : L x < 0
      · exact ⟨v, r, L, hF, h0, hL, hf⟩
      · obtain ⟨r', hF', _⟩ := push_one W (hF.ok O) (path_of hL hx (by omega)) hb
        have := bnd (hF.more hF')
        omega
    | succ d ih =>
      intro v r hF h0 hd
      obtain ⟨L, hL⟩ := lev_ex (r := r) W hb
      by_cases hf : L x < 0
      · exact ⟨v, r, L, hF, h0, hL, hf⟩
      · obtain ⟨r', hF', _⟩ := push_one W (hF.ok O) (path_of hL hx (by omega)) hb
        have hF2 := hF.more hF'
        have := bnd hF2
        exact ih _ _ hF2 (by omega) (by omega)
  exact key _ 0 r0 (Fl.zero O) (Int.le_refl _) (Nat.le_refl _)
end

/-! ## the document's edges -/
structure Eg where
  f : Nat
  t : Nat
  pas : Int
  tick : Int
def Eg.zero : Eg := ⟨0, 0, 0, 0⟩
def egc (E : List Eg) (r : Nat → Int) (k : Nat) : Nat → Value
  | 0 => .int .i64 ((E.getD k Eg.zero).f : Int)
  | 1 => .int .i64 ((E.getD k Eg.zero).t : Int)
  | 2 => .int .i64 (r k)
  | 3 => .int .i64 (E.getD k Eg.zero).pas
  | _ => .int .i64 (E.getD k Eg.zero).tick
def egs2 (j : Jn) : List Eg := [⟨j.f, j.t, j.mv.pas, j.mv.at_⟩, ⟨j.t, j.f, -1, 0⟩]
def egs (J : List Jn) : List Eg := J.flatMap egs2
def Jn.zero : Jn := ⟨0, 0, 0, Mv.none⟩
def egr (J : List Jn) (e : Nat) : Int := if e % 2 = 0 then (J.getD (e / 2) Jn.zero).room else 0
def ixs (E : List Eg) (i : Nat) : List Nat := (List.range E.length).filter fun e => decide ((E.getD e Eg.zero).f = i)
/-- The edge that leads back. -/
def tw (e : Nat) : Nat := if e % 2 = 0 then e + 1 else e - 1
theorem egs_len (J : List Jn) : (egs J).length = 2 * J.length := by
  induction J with
  | nil => rfl
  | cons j J ih => simp only [egs, List.flatMap_cons, List.length_append, List.length_cons] at ih ⊢; rw [ih]; simp [egs2]; omega
theorem egs_snoc (J : List Jn) (j : Jn) : egs (J ++ [j]) = egs J ++ egs2 j := by simp [egs]
theorem getD_app {α : Type} {l l' : List α} {d : α} {q : Nat} (h : q < l.length) : (l ++ l').getD q d = l.getD q d := by
  rw [List.getD_eq_getElem?_getD, List.getD_eq_getElem?_getD, List.getElem?_append_left h]
theorem getD_app2 {α : Type} {l l' : List α} {d : α} {q : Nat} (h : l.length ≤ q) : (l ++ l').getD q d = l'.getD (q - l.length) d := by
  rw [List.getD_eq_getElem?_getD, List.getD_eq_getElem?_getD, List.getElem?_append_right h]
theorem egs_get0 (J : List Jn) (j : Jn) : (egs (J ++ [j])).getD (2 * J.length) Eg.zero = ⟨j.f, j.t, j.mv.pas, j.mv.at_⟩ := by
  rw [egs_snoc, getD_app2 (by rw [egs_len]; omega), egs_len, Nat.sub_self]; rfl
theorem egs_get1 (J : List Jn) (j : Jn) : (egs (J ++ [j])).getD (2 * J.length + 1) Eg.zero = ⟨j.t, j.f, -1, 0⟩ := by
  rw [egs_snoc, getD_app2 (by rw [egs_len]; omega), egs_len, show 2 * J.length + 1 - 2 * J.length = 1 by omega]; rfl
theorem egs_old {J : List Jn} {j : Jn} {e : Nat} (h : e < 2 * J.length) : (egs (J ++ [j])).getD e Eg.zero = (egs J).getD e Eg.zero := by rw [egs_snoc, getD_app (by rw [egs_len]; exact h)]
theorem egr_old {J : List Jn} {j : Jn} {e : Nat} (h : e < 2 * J.length) : egr (J ++ [j]) e = egr J e := by unfold egr; rw [getD_app (by omega)]
theorem egr_get0 (J : List Jn) (j : Jn) : egr (J ++ [j]) (2 * J.length) = j.room := by
  unfold egr; rw [if_pos (by omega), show 2 * J.length / 2 = J.length by omega, getD_app2 (Nat.le_refl _), Nat.sub_self]; rfl
theorem egr_get1 (J : List Jn) (j : Jn) : egr (J ++ [j]) (2 * J.length + 1) = 0 := by unfold egr; rw [if_neg (by omega)]
theorem filter_congr' {l : List Nat} {p q : Nat → Bool} (h : ∀ x ∈ l, p x = q x) : l.filter p = l.filter q := by
  induction l with
  | nil => rfl
  | cons a l ih =>
    have h1 := h a (List.mem_cons_self ..)
    have h2 := ih fun x hx => h x (List.mem_cons_of_mem _ hx)
    by_cases hp : p a = true
    · rw [List.filter_cons_of_pos hp, List.filter_cons_of_pos (by rw [← h1]; exact hp), h2]
    · rw [List.filter_cons_of_neg hp, List.filter_cons_of_neg (by rw [← h1]; exact hp), h2]
theorem ixs_snoc {E : List Eg} {e1 : Eg} {i : Nat} : ixs (E ++ [e1]) i = ixs E i ++ (if e1.f = i then [E.length] else []) := by
  unfold ixs
  rw [List.length_append, List.length_singleton, List.range_succ, List.filter_append]
  congr 1
  · refine filter_congr' fun x hx => ?_
    rw [getD_app (List.mem_range.1 hx)]
  · have hg : (E ++ [e1]).getD E.length Eg.zero = e1 := by rw [getD_app2 (Nat.le_refl _), Nat.sub_self]; rfl
    by_cases h : e1.f = i
    · rw [if_pos h, List.filter_cons_of_pos (by rw [hg]; exact decide_eq_true h)]; rfl
    · rw [if_neg h, List.filter_cons_of_neg (by rw [hg, decide_eq_false h]; simp)]; rfl
theorem ixs_join {J : List Jn} {j : Jn} (hft : j.f ≠ j.t) (i : Nat) : ixs (egs (J ++ [j])) i = if i = j.f then ixs (egs J) i ++ [2 * J.length] else if i = j.t then ixs (egs J) i ++ [2 * J.length + 1] else ixs (egs J) i := by
  have e : egs (J ++ [j]) = (egs J ++ [⟨j.f, j.t, j.mv.pas, j.mv.at_⟩]) ++ [⟨j.t, j.f, -1, 0⟩] := by rw [egs_snoc]; unfold egs2; simp
  rw [e, ixs_snoc, ixs_snoc, List.length_append, egs_len]
  dsimp only
  by_cases h1 : i = j.f
  · subst h1
    rw [if_pos rfl, if_pos rfl, if_neg (fun h => hft h.symm), List.append_nil]
  · rw [if_neg (fun h => h1 h.symm), if_neg h1]
    by_cases h2 : i = j.t
    · subst h2; rw [if_pos rfl, if_pos rfl, List.append_nil]; rfl
    · rw [if_neg (fun h => h2 h.symm), if_neg h2, List.append_nil, List.append_nil]
/-- The flat edges are those of a net. -/
structure Lk (N : Net) (E : List Eg) : Prop where
  len : ∀ i, i < N.k → (ixs E i).length = N.n i
  lt : ∀ i, i < N.k → ∀ q, q < N.n i → (ixs E i).getD q 0 < E.length
  ef : ∀ i, i < N.k → ∀ q, q < N.n i → (E.getD ((ixs E i).getD q 0) Eg.zero).f = i
  et : ∀ i, i < N.k → ∀ q, q < N.n i → (E.getD ((ixs E i).getD q 0) Eg.zero).t = N.to i q
  tw : ∀ i, i < N.k → ∀ q, q < N.n i → (ixs E (N.to i q)).getD (N.back i q) 0 = tw ((ixs E i).getD q 0)
  inj : ∀ i, i < N.k → ∀ q q', q < N.n i → q' < N.n i → (ixs E i).getD q 0 = (ixs E i).getD q' 0 → q = q'
  evn : E.length % 2 = 0
def rmE (E : List Eg) (r : Nat → Int) : RM := fun i q => r ((ixs E i).getD q 0)
theorem ixs_mem {E : List Eg} {i q : Nat} (h : q < (ixs E i).length) : (ixs E i).getD q 0 < E.length ∧ (E.getD ((ixs E i).getD q 0) Eg.zero).f = i := by
  have hm : (ixs E i).getD q 0 ∈ ixs E i := by rw [List.getD_eq_getElem?_getD, List.getElem?_eq_getElem h]; exact List.getElem_mem h
  have := List.mem_filter.1 hm
  exact ⟨List.mem_range.1 this.1, of_decide_eq_true this.2⟩
theorem ixs_inj {E : List Eg} {i q q' : Nat} (h : q < (ixs E i).length) (h' : q' < (ixs E i).length) (e : (ixs E i).getD q 0 = (ixs E i).getD q' 0) : q = q' := by
  have hn : (ixs E i).Nodup := List.Pairwise.filter _ List.nodup_range
  rw [List.getD_eq_getElem?_getD, List.getD_eq_getElem?_getD, List.getElem?_eq_getElem h, List.getElem?_eq_getElem h'] at e
  exact (List.getElem_inj hn).1 e
/-- What joins make. -/
theorem lk_joins : ∀ (n : Nat) (J : List Jn), J.length = n → (∀ j ∈ J, j.f ≠ j.t) → ∀ i, (ixs (egs J) i).length = (joins J i).length ∧ ∀ q, q < (joins J i).length →
    ((egs J).getD ((ixs (egs J) i).getD q 0) Eg.zero).t = ((joins J i).getD q Ent.zero).to ∧ egr J ((ixs (egs J) i).getD q 0) = ((joins J i).getD q Ent.zero).room ∧
    ((joins J i).getD q Ent.zero).back < (joins J ((joins J i).getD q Ent.zero).to).length ∧ (ixs (egs J) ((joins J i).getD q Ent.zero).to).getD ((joins J i).getD q Ent.zero).back 0 = tw ((ixs (egs J) i).getD q 0) := by
  intro n
  induction n with
  | zero =>
    intro J h _ i
    have : J = [] := List.eq_nil_of_length_eq_zero h
    subst this
    exact ⟨rfl, fun q hq => absurd hq (Nat.not_lt_zero q)⟩
  | succ n ih =>
    intro J h hne
    obtain ⟨J', j, rfl⟩ : ∃ J' j, J = J' ++ [j] := ⟨J.dropLast, J.getLast (by intro e; subst e; simp at h), (List.dropLast_concat_getLast _).symm⟩
    have IH := ih J' (by simpa using h) (fun x hx => hne x (List.mem_append_left _ hx))
    have hft : j.f ≠ j.t := hne j (List.mem_append_right _ (by simp))
    have hlen := join_len (T := joins J') (f := j.f) (t := j.t) (room := j.room) (mv := j.mv) hft
    have hat := join_at (T := joins J') (f := j.f) (t := j.t) (room := j.room) (mv := j.mv) hft
    have hL : ∀ i, (ixs (egs (J' ++ [j])) i).length = (joins (J' ++ [j]) i).length := fun i => by
      have h2 := hlen i
      unfold tlen at h2
      rw [joins_snoc, h2, ixs_join hft, ← (IH i).1]
      by_cases h1 : i = j.f
      · subst h1; rw [if_pos rfl, if_pos rfl, if_neg hft]; simp
      · rw [if_neg h1, if_neg h1]
        by_cases h2 : i = j.t
        · subst h2; rw [if_pos rfl, if_pos rfl]; simp
        · rw [if_neg h2, if_neg h2]; omega
    have hX0 : ∀ i q, q < (joins J' i).length → (ixs (egs (J' ++ [j])) i).getD q 0 = (ixs (egs J') i).getD q 0 := fun i q hq => by
      have h2 := (IH i).1
      rw [ixs_join hft]
      split
      · exact getD_app (by omega)
      · split
        · exact getD_app (by omega)
        · rfl
    have hXf : (ixs (egs (J' ++ [j])) j.f).getD (joins J' j.f).length 0 = 2 * J'.length := by
      rw [ixs_join hft, if_pos rfl, getD_app2 (by rw [(IH j.f).1]; omega), (IH j.f).1, Nat.sub_self]; rfl
    have hXt : (ixs (egs (J' ++ [j])) j.t).getD (joins J' j.t).length 0 = 2 * J'.length + 1 := by
      rw [ixs_join hft, if_neg (fun e => hft e.symm), if_pos rfl, getD_app2 (by rw [(IH j.t).1]; omega), (IH j.t).1, Nat.sub_self]; rfl
    intro i
    refine ⟨hL i, fun q hq => ?_⟩
    have hq' := hq
    rw [joins_snoc] at hq'
    have h2 := hlen i
    unfold tlen at h2
    rw [h2] at hq'
    have he : ∀ i q, (joins (J' ++ [j]) i).getD q Ent.zero = entAt (joinT (joins J') j.f j.t j.room j.mv) i q := fun i q => by rw [joins_snoc]; rfl
    have tw0 : tw (2 * J'.length) = 2 * J'.length + 1 := by unfold tw; rw [if_pos (by omega)]
    have tw1 : tw (2 * J'.length + 1) = 2 * J'.length := by unfold tw; rw [if_neg (by omega)]; omega
    have hlt : ∀ i, (joins (J' ++ [j]) i).length = (joins J' i).length + (if i = j.f then 1 else 0) + (if i = j.t then 1 else 0) := fun i => by rw [joins_snoc]; exact hlen i
    rw [he, hat]
    unfold tlen
    by_cases c1 : i = j.f ∧ q = (joins J' j.f).length
    · obtain ⟨rfl, rfl⟩ := c1
      rw [if_pos ⟨rfl, rfl⟩, hXf, egs_get0, egr_get0]
      dsimp only
      exact ⟨rfl, rfl, by rw [hlt, if_pos rfl]; omega, by rw [hXt, tw0]⟩
    · rw [if_neg c1]
      by_cases c2 : i = j.t ∧ q = (joins J' j.t).length
      · obtain ⟨rfl, rfl⟩ := c2
        rw [if_pos ⟨rfl, rfl⟩, hXt, egs_get1, egr_get1]
        dsimp only
        exact ⟨rfl, rfl, by rw [hlt, if_pos rfl]; omega, by rw [hXf, tw1]⟩
      · rw [if_neg c2]
        have hqo : q < (joins J' i).length := by
          by_cases e1 : i = j.f
          · subst e1; rw [if_pos rfl, if_neg hft] at hq'; have : q ≠ (joins J' j.f).length := fun e => c1 ⟨rfl, e⟩; omega
          · by_cases e2 : i = j.t
            · subst e2; rw [if_neg e1, if_pos rfl] at hq'; have : q ≠ (joins J' j.t).length := fun e => c2 ⟨rfl, e⟩; omega
            · rw [if_neg e1, if_neg e2] at hq'; omega
        obtain ⟨g1, g2, g3, g4⟩ := (IH i).2 q hqo
        have hlt2 := (ixs_mem (E := egs J') (i := i) (q := q) (by rw [(IH i).1]; exact hqo)).1
        rw [egs_len] at hlt2
        rw [hX0 i q hqo, egs_old hlt2, egr_old hlt2]
        refine ⟨g1, g2, ?_, ?_⟩
        · show ((joins J' i).getD q Ent.zero).back < _
          rw [hlt]
          exact Nat.lt_of_lt_of_le g3 (by show _ ≤ (joins J' ((joins J' i).getD q Ent.zero).to).length + _ + _; omega)
        · show (ixs (egs (J' ++ [j])) ((joins J' i).getD q Ent.zero).to).getD ((joins J' i).getD q Ent.zero).back 0 = _
          rw [hX0 _ _ g3, g4]
theorem lk_net {J : List Jn} {k : Nat} (h : ∀ j ∈ J, j.f ≠ j.t) : Lk ((joins J).net k) (egs J) := by
  have IH := lk_joins _ J rfl h
  have hl : ∀ i q, q < (joins J i).length → q < (ixs (egs J) i).length := fun i q hq => by rw [(IH i).1]; exact hq
  exact ⟨fun i _ => (IH i).1, fun i _ q hq => (ixs_mem (hl i q hq)).1, fun i _ q hq => (ixs_mem (hl i q hq)).2, fun i _ q hq => ((IH i).2 q hq).1, fun i _ q hq => ((IH i).2 q hq).2.2.2,
    fun i _ q q' hq hq' e => ixs_inj (hl i q hq) (hl i q' hq') e, by rw [egs_len]; omega⟩
theorem rm_net {J : List Jn} {k : Nat} (h : ∀ j ∈ J, j.f ≠ j.t) : ∀ i, i < k → ∀ q, q < ((joins J).net k).n i → rmE (egs J) (egr J) i q = (joins J).room i q := fun i _ q hq => ((lk_joins _ J rfl h i).2 q hq).2.1
theorem tw_tw {e : Nat} : tw (tw e) = e := by
  unfold tw
  by_cases h : e % 2 = 0
  · rw [if_pos h, if_neg (by omega)]; omega
  · rw [if_neg h, if_pos (by omega)]; omega
theorem tw_ne {e : Nat} : tw e ≠ e := by unfold tw; split <;> omega
theorem tw_lt {e n : Nat} (h : e < n) (hn : n % 2 = 0) : tw e < n := by unfold tw; split <;> omega
/-- So many more go along an edge. -/
def pushE (r : Nat → Int) (e : Nat) (m : Int) : Nat → Int := upd (upd r e (r e - m)) (tw e) (r (tw e) + m)
section
variable {N : Net} {E : List Eg} {r : Nat → Int} {u j : Nat} {m B : Int}
theorem pushE_at : pushE r u m u = r u - m := by unfold pushE; rw [upd_ne _ _ (fun e => tw_ne e.symm), upd_same]
theorem pushE_tw : pushE r u m (tw u) = r (tw u) + m := upd_same _ _ _
theorem pushE_ne {e : Nat} (h1 : e ≠ u) (h2 : e ≠ tw u) : pushE r u m e = r e := by unfold pushE; rw [upd_ne _ _ h2, upd_ne _ _ h1]
theorem Lk.push (K : Lk N E) (W : N.Wf) (hu : u < N.k) (hj : j < N.n u) : ∀ i, i < N.k → ∀ q, q < N.n i → rmE E (pushE r ((ixs E u).getD j 0) m) i q = along N (rmE E r) u j m i q := by
  intro i hi q hq
  have htk := W.to_lt u hu j hj
  have hbk := W.bk_lt u hu j hj
  have same : ∀ {i q i' q'}, i < N.k → q < N.n i → i' < N.k → q' < N.n i' → (ixs E i).getD q 0 = (ixs E i').getD q' 0 → i = i' ∧ q = q' := by
    intro i q i' q' hi hq hi' hq' e
    have e1 : i = i' := by rw [← K.ef i hi q hq, e, K.ef i' hi' q' hq']
    subst e1
    exact ⟨rfl, K.inj i hi q q' hq hq' e⟩
  show pushE r ((ixs E u).getD j 0) m ((ixs E i).getD q 0) = _
  by_cases h1 : i = u ∧ q = j
  · obtain ⟨rfl, rfl⟩ := h1
    rw [pushE_at, along_at W hi hq]; rfl
  · by_cases h2 : i = N.to u j ∧ q = N.back u j
    · obtain ⟨rfl, rfl⟩ := h2
      rw [along_bk, K.tw u hu j hj, pushE_tw]
      show _ = r ((ixs E (N.to u j)).getD (N.back u j) 0) + m
      rw [K.tw u hu j hj]
    · rw [along_ne h1 h2, pushE_ne (fun e => h1 (same hi hq hu hj e)) (fun e => h2 (same hi hq htk hbk (by rw [K.tw u hu j hj]; exact e)))]; rfl
/-- What was found: and by which edge. -/
structure Rch (N : Net) (E : List Eg) (r : Nat → Int) (b : Nat) (L : Nat → Int) (by_ : Nat → Nat) : Prop where
  from_ : ∀ v, v < N.k → 0 ≤ L v → v = b ∨ ∃ u, u < N.k ∧ ∃ j, j < N.n u ∧ 0 ≤ L u ∧ 0 < rmE E r u j ∧ N.to u j = v ∧ L v = L u + 1 ∧ by_ v = (ixs E u).getD j 0
theorem Rch.start {b : Nat} (hb : b < N.k) {L : Nat → Int} (hL : ∀ v, v < N.k → L v = if v = b then 0 else -1) {by_ : Nat → Nat} : Rch N E r b L by_ := ⟨fun v hv h0 => by
  rw [hL v hv] at h0
  split at h0
  · rename_i e; exact .inl e
  · omega⟩
theorem Rch.visit {b : Nat} {L : Nat → Int} {by_ : Nat → Nat} (h : Rch N E r b L by_) (hu : u < N.k) (hj : j < N.n u) (h0 : 0 ≤ L u) (hr : 0 < rmE E r u j) (hv : L (N.to u j) < 0) :
    Rch N E r b (upd L (N.to u j) (L u + 1)) (upd by_ (N.to u j) ((ixs E u).getD j 0)) := ⟨fun v hv' h0' => by
  have hne : ∀ v, 0 ≤ L v → v ≠ N.to u j := fun v h0 e => by subst e; omega
  by_cases e : v = N.to u j
  · subst e
    rw [upd_same, upd_same]
    exact .inr ⟨u, hu, j, hj, by rw [upd_ne _ _ (hne u h0)]; exact h0, hr, rfl, by rw [upd_ne _ _ (hne u h0)], rfl⟩
  · rw [upd_ne _ _ e] at h0'
    rcases h.from_ v hv' h0' with h1 | ⟨u', hu', j', hj', g1, g2, g3, g4, g5⟩
    · exact .inl h1
    · refine .inr ⟨u', hu', j', hj', ?_, g2, g3, ?_, ?_⟩
      · rw [upd_ne _ _ (hne u' g1)]; exact g1
      · rw [upd_ne _ _ e, upd_ne _ _ (hne u' g1)]; exact g4
      · rw [upd_ne _ _ e]; exact g5⟩
/-- The node ahead of one. -/
def prv (E : List Eg) (by_ : Nat → Nat) (v : Nat) : Nat := (E.getD (by_ v) Eg.zero).f
def pth (E : List Eg) (by_ : Nat → Nat) (x : Nat) : Nat → Nat
  | 0 => x
  | i + 1 => prv E by_ (pth E by_ x i)
theorem Rch.prv {b : Nat} {L : Nat → Int} {by_ : Nat → Nat} (K : Lk N E) (h : Rch N E r b L by_) {v : Nat} (hv : v < N.k) (h0 : 0 ≤ L v) (hne : v ≠ b) :
    ∃ j, prv E by_ v < N.k ∧ j < N.n (prv E by_ v) ∧ 0 ≤ L (prv E by_ v) ∧ 0 < r (by_ v) ∧ N.to (prv E by_ v) j = v ∧ L v = L (prv E by_ v) + 1 ∧ by_ v = (ixs E (prv E by_ v)).getD j 0 ∧ by_ v < E.length ∧ (E.getD (by_ v) Eg.zero).t = v := by
  rcases h.from_ v hv h0 with h1 | ⟨u, hu, j, hj, g1, g2, g3, g4, g5⟩
  · exact absurd h1 hne
  · have e : Go.Proofs.Ytlmddkekeoebcaa.prv E by_ v = u := by unfold Go.Proofs.Ytlmddkekeoebcaa.prv; rw [g5]; exact K.ef u hu j hj
    rw [e]
    exact ⟨j, hu, hj, g1, by rw [g5]; exact g2, g3, g4, g5, by rw [g5]; exact K.lt u hu j hj, by rw [g5, K.et u hu j hj]; exact g3⟩
end
end Go.Proofs.Ytlmddkekeoebcaa
