/- Chapter 8: nets in general: levels, a full flow; the document's net: a flat list of edges, and the numbers of those of each node. -/
import Derived.Test.YtdepakimbagonaaE4
namespace Go.Proofs.Ytdepakimbagonaa
set_option linter.unusedVariables false
set_option linter.unusedSimpArgs false

/-! ## a full flow in any net -/
structure EndN (N : Net) (r0 : RM) (b x : Nat) (v : Int) (r : RM) (L : Nat → Int) : Prop where
  fl : Fl N r0 r b x v
  nn : 0 ≤ v
  lev : LevOk N r b L
  full : L x < 0
section
variable {N : Net} {r r0 r1 r2 : RM} {b x u : Nat} {v v' m B : Int} {L L' : Nat → Int}
theorem resid_congr {S : Nat → Bool} (h : ∀ i, i < N.k → ∀ j, j < N.n i → r2 i j = r1 i j) : resid N r2 S = resid N r1 S := sm_congr fun i hi => sm_congr fun j hj => by rw [h i hi j hj]
theorem Fl.congr (W : N.Wf) (h : Fl N r r1 u x m) (e : ∀ i, i < N.k → ∀ j, j < N.n i → r2 i j = r1 i j) : Fl N r r2 u x m :=
  ⟨fun S => by rw [resid_congr e]; exact h.cut S, fun i hi j hj => by rw [e i hi j hj, e _ (W.to_lt i hi j hj) _ (W.bk_lt i hi j hj)]; exact h.pair i hi j hj, fun i hi j hj => by rw [e i hi j hj]; exact h.nn i hi j hj⟩
theorem ind_bx {S : Nat → Bool} (hb : S b = true) (hx : S x = false) : ind S b - ind S x = 1 := by unfold ind; rw [hb, hx]; rfl
theorem EndN.bound (O : Ok N r0 B) (h : EndN N r0 b x v r L) {S : Nat → Bool} (hb : S b = true) (hx : S x = false) : v ≤ resid N r0 S := by
  have h1 := resid_nn (S := S) (h.fl.ok O)
  rw [h.fl.cut, ind_bx hb hx] at h1
  omega
theorem EndN.inside (h : EndN N r0 b x v r L) {S : Nat → Bool} (hb : S b = true) (hx : S x = false) (hc : resid N r0 S = v) : ∀ u, u < N.k → 0 ≤ L u → S u = true := by
  have h0 : resid N r S = 0 := by rw [h.fl.cut, ind_bx hb hx]; omega
  exact h.lev.least hb (resid_zero h.fl.nn h0)
/-- Levels there are. -/
theorem lev_ex (W : N.Wf) (hb : b < N.k) : ∃ L, LevOk N r b L := by
  have row : ∀ (L : Nat → Int) (q : Nat → Nat) (ql h : Nat), Bfs N r b L q ql h 0 → h < ql → ∃ L' q' ql', Bfs N r b L' q' ql' (h + 1) 0 := by
    intro L q ql h hB hh
    have key : ∀ J, J ≤ N.n (q h) → ∃ L' q' ql', Bfs N r b L' q' ql' h J ∧ q' h = q h ∧ h < ql' := by
      intro J
      induction J with
      | zero => intro _; exact ⟨L, q, ql, hB, rfl, hh⟩
      | succ J ih =>
        intro hJ
        obtain ⟨L', q', ql', hB', he, hl⟩ := ih (by omega)
        by_cases hc : 0 < r (q' h) J ∧ L' (N.to (q' h) J) < 0
        · exact ⟨_, _, _, hB'.visit W hl (by rw [he]; omega) hc.1 hc.2, by rw [upd_ne _ _ (by omega)]; exact he, by omega⟩
        · exact ⟨_, _, _, hB'.skip hc, he, hl⟩
    obtain ⟨L', q', ql', hB', he, _⟩ := key (N.n (q h)) (Nat.le_refl _)
    exact ⟨L', q', ql', hB'.next (by rw [he]; omega)⟩
  have key : ∀ (d h : Nat) (L : Nat → Int) (q : Nat → Nat) (ql : Nat), Bfs N r b L q ql h 0 → N.k - h ≤ d → ∃ L, LevOk N r b L := by
    intro d
    induction d with
    | zero => intro h L q ql hB hd; exact ⟨L, hB.done (by have := hB.le; omega)⟩
    | succ d ih =>
      intro h L q ql hB hd
      by_cases hq : ql ≤ h
      · exact ⟨L, hB.done hq⟩
      · obtain ⟨L', q', ql', hB'⟩ := row L q ql h hB (by omega)
        exact ih (h + 1) L' q' ql' hB' (by have := hB.le; omega)
  exact key _ 0 _ _ 1 (Bfs.start (L := fun v => if v = b then 0 else -1) (q := fun _ => b) hb (fun _ _ => rfl) rfl) (Nat.le_refl _)
/-- One more along a way. -/
theorem push_one (W : N.Wf) (O : Ok N r B) (hp : Path N r L x u) : u < N.k → ∃ r', Fl N r r' u x 1 ∧ ∀ i, i < N.k → ∀ q, q < N.n i → L i < L u → r' i q = r i q := by
  induction hp with
  | stop => intro _; exact ⟨r, Fl.here O, fun _ _ _ _ _ => rfl⟩
  | @step u j hj hr hl _ ih =>
    intro hu
    obtain ⟨r', hF, hlow⟩ := ih (W.to_lt u hu j hj)
    have e := hlow u hu j hj (by omega)
    refine ⟨along N r' u j 1, Fl.step W hu hj hF (by omega) (by omega), fun i hi q hq hL => ?_⟩
    rw [along_ne (fun h => by rw [h.1] at hL; omega) (fun h => by rw [h.1] at hL; omega)]
    exact hlow i hi q hq (by omega)
/-- A full flow there is. -/
theorem end_ex (W : N.Wf) (O : Ok N r0 B) (hb : b < N.k) (hx : x < N.k) (hbx : b ≠ x) : ∃ v r L, EndN N r0 b x v r L := by
  have bnd : ∀ {v r}, Fl N r0 r b x v → v ≤ resid N r0 (fun v => decide (v = b)) := fun {v r} hF => by
    have h1 := resid_nn (S := fun v => decide (v = b)) (hF.ok O)
    rw [hF.cut, ind_bx (by simp) (by simp; exact fun e => hbx e.symm)] at h1
    omega
  have key : ∀ (d : Nat) (v : Int) (r : RM), Fl N r0 r b x v → 0 ≤ v → (resid N r0 (fun v => decide (v = b)) - v).toNat ≤ d → ∃ v r L, EndN N r0 b x v r L := by
    intro d
    induction d with
    | zero =>
      intro v r hF h0 hd
      obtain ⟨L, hL⟩ := lev_ex (r := r) W hb
      by_cases hf : L x < 0
      · exact ⟨v, r, L, hF, h0, hL, hf⟩
      · obtain ⟨r', hF', _⟩ := push_one W (hF.ok O) (path_of hL hx (by omega)) hb
        have := bnd (hF.more hF')
        omega
    | succ d ih =>
      intro v r hF h0 hd
      obtain ⟨L, hL⟩ := lev_ex (r := r) W hb
      by_cases hf : L x < 0
      · exact ⟨v, r, L, hF, h0, hL, hf⟩
      · obtain ⟨r', hF', _⟩ := push_one W (hF.ok O) (path_of hL hx (by omega)) hb
        have hF2 := hF.more hF'
        have := bnd hF2
        exact ih _ _ hF2 (by omega) (by omega)
  exact key _ 0 r0 (Fl.zero O) (Int.le_refl _) (Nat.le_refl _)
end

/-! ## the document's edges -/
structure Eg where
  f : Nat
  t : Nat
  pas : Int
  tick : Int
def Eg.zero : Eg := ⟨0, 0, 0, 0⟩
def Jn.zero : Jn := ⟨0, 0, 0, Mv.none⟩
def ixs (E : List Eg) (i : Nat) : List Nat := (List.range E.length).filter fun e => decide ((E.getD e Eg.zero).f = i)
/-- The edge that leads back. -/
def tw (e : Nat) : Nat := if e % 2 = 0 then e + 1 else e - 1
/-- The flat edges are those of a net. -/
structure Lk (N : Net) (E : List Eg) : Prop where
  len : ∀ i, i < N.k → (ixs E i).length = N.n i
  lt : ∀ i, i < N.k → ∀ q, q < N.n i → (ixs E i).getD q 0 < E.length
  ef : ∀ i, i < N.k → ∀ q, q < N.n i → (E.getD ((ixs E i).getD q 0) Eg.zero).f = i
  et : ∀ i, i < N.k → ∀ q, q < N.n i → (E.getD ((ixs E i).getD q 0) Eg.zero).t = N.to i q
  tw : ∀ i, i < N.k → ∀ q, q < N.n i → (ixs E (N.to i q)).getD (N.back i q) 0 = tw ((ixs E i).getD q 0)
  inj : ∀ i, i < N.k → ∀ q q', q < N.n i → q' < N.n i → (ixs E i).getD q 0 = (ixs E i).getD q' 0 → q = q'
  evn : E.length % 2 = 0
def rmE (E : List Eg) (r : Nat → Int) : RM := fun i q => r ((ixs E i).getD q 0)
theorem tw_ne {e : Nat} : tw e ≠ e := by unfold tw; split <;> omega
/-- So many more go along an edge. -/
def pushE (r : Nat → Int) (e : Nat) (m : Int) : Nat → Int := upd (upd r e (r e - m)) (tw e) (r (tw e) + m)
section
variable {N : Net} {E : List Eg} {r : Nat → Int} {u j : Nat} {m B : Int}
theorem pushE_at : pushE r u m u = r u - m := by unfold pushE; rw [upd_ne _ _ (fun e => tw_ne e.symm), upd_same]
theorem pushE_tw : pushE r u m (tw u) = r (tw u) + m := upd_same _ _ _
theorem pushE_ne {e : Nat} (h1 : e ≠ u) (h2 : e ≠ tw u) : pushE r u m e = r e := by unfold pushE; rw [upd_ne _ _ h2, upd_ne _ _ h1]
theorem Lk.push (K : Lk N E) (W : N.Wf) (hu : u < N.k) (hj : j < N.n u) : ∀ i, i < N.k → ∀ q, q < N.n i → rmE E (pushE r ((ixs E u).getD j 0) m) i q = along N (rmE E r) u j m i q := by
  intro i hi q hq
  have htk := W.to_lt u hu j hj
  have hbk := W.bk_lt u hu j hj
  have same : ∀ {i q i' q'}, i < N.k → q < N.n i → i' < N.k → q' < N.n i' → (ixs E i).getD q 0 = (ixs E i').getD q' 0 → i = i' ∧ q = q' := by
    intro i q i' q' hi hq hi' hq' e
    have e1 : i = i' := by rw [← K.ef i hi q hq, e, K.ef i' hi' q' hq']
    subst e1
    exact ⟨rfl, K.inj i hi q q' hq hq' e⟩
  show pushE r ((ixs E u).getD j 0) m ((ixs E i).getD q 0) = _
  by_cases h1 : i = u ∧ q = j
  · obtain ⟨rfl, rfl⟩ := h1
    rw [pushE_at, along_at W hi hq]; rfl
  · by_cases h2 : i = N.to u j ∧ q = N.back u j
    · obtain ⟨rfl, rfl⟩ := h2
      rw [along_bk, K.tw u hu j hj, pushE_tw]
      show _ = r ((ixs E (N.to u j)).getD (N.back u j) 0) + m
      rw [K.tw u hu j hj]
    · rw [along_ne h1 h2, pushE_ne (fun e => h1 (same hi hq hu hj e)) (fun e => h2 (same hi hq htk hbk (by rw [K.tw u hu j hj]; exact e)))]; rfl
/-- What was found: and by which edge. -/
structure Rch (N : Net) (E : List Eg) (r : Nat → Int) (b : Nat) (L : Nat → Int) (by_ : Nat → Nat) : Prop where
  from_ : ∀ v, v < N.k → 0 ≤ L v → v = b ∨ ∃ u, u < N.k ∧ ∃ j, j < N.n u ∧ 0 ≤ L u ∧ 0 < rmE E r u j ∧ N.to u j = v ∧ L v = L u + 1 ∧ by_ v = (ixs E u).getD j 0
theorem Rch.start {b : Nat} (hb : b < N.k) {L : Nat → Int} (hL : ∀ v, v < N.k → L v = if v = b then 0 else -1) {by_ : Nat → Nat} : Rch N E r b L by_ := ⟨fun v hv h0 => by
  rw [hL v hv] at h0
  split at h0
  · rename_i e; exact .inl e
  · omega⟩
theorem Rch.visit {b : Nat} {L : Nat → Int} {by_ : Nat → Nat} (h : Rch N E r b L by_) (hu : u < N.k) (hj : j < N.n u) (h0 : 0 ≤ L u) (hr : 0 < rmE E r u j) (hv : L (N.to u j) < 0) :
    Rch N E r b (upd L (N.to u j) (L u + 1)) (upd by_ (N.to u j) ((ixs E u).getD j 0)) := ⟨fun v hv' h0' => by
  have hne : ∀ v, 0 ≤ L v → v ≠ N.to u j := fun v h0 e => by subst e; omega
  by_cases e : v = N.to u j
  · subst e
    rw [upd_same, upd_same]
    exact .inr ⟨u, hu, j, hj, by rw [upd_ne _ _ (hne u h0)]; exact h0, hr, rfl, by rw [upd_ne _ _ (hne u h0)], rfl⟩
  · rw [upd_ne _ _ e] at h0'
    rcases h.from_ v hv' h0' with h1 | ⟨u', hu', j', hj', g1, g2, g3, g4, g5⟩
    · exact .inl h1
    · refine .inr ⟨u', hu', j', hj', ?_, g2, g3, ?_, ?_⟩
      · rw [upd_ne _ _ (hne u' g1)]; exact g1
      · rw [upd_ne _ _ e, upd_ne _ _ (hne u' g1)]; exact g4
      · rw [upd_ne _ _ e]; exact g5⟩
end
end Go.Proofs.Ytdepakimbagonaa
