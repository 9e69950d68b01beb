/- Flows in nets, in plain words: what is left across each set of nodes; levels; what a push does. -/
import Derived.Test.YtlmddkekeoebcaaRag
namespace Go.Proofs.Ytlmddkekeoebcaa
set_option linter.unusedVariables false
set_option linter.unusedSimpArgs false

/-! ## sums -/
def sm (f : Nat → Int) : Nat → Int
  | 0 => 0
  | n + 1 => sm f n + f n
theorem sm_congr {f g : Nat → Int} : ∀ {n : Nat}, (∀ i, i < n → f i = g i) → sm f n = sm g n := by
  intro n
  induction n with
  | zero => intro _; rfl
  | succ n ih => intro h; rw [sm, sm, ih (fun i hi => h i (by omega)), h n (by omega)]
theorem sm_upd {f g : Nat → Int} {p : Nat} : ∀ {n : Nat}, p < n → (∀ i, i < n → i ≠ p → g i = f i) → sm g n = sm f n + (g p - f p) := by
  intro n
  induction n with
  | zero => intro h; omega
  | succ n ih =>
    intro hp h
    rw [sm, sm]
    by_cases e : p = n
    · subst e
      rw [sm_congr (f := g) (g := f) (fun i hi => h i (by omega) (by omega))]
      omega
    · rw [ih (by omega) (fun i hi hne => h i (by omega) hne), h n (by omega) (fun e' => e e'.symm)]
      omega
theorem sm_nonneg {f : Nat → Int} : ∀ {n : Nat}, (∀ i, i < n → 0 ≤ f i) → 0 ≤ sm f n := by
  intro n
  induction n with
  | zero => intro _; exact Int.le_refl _
  | succ n ih => intro h; have h1 := ih (fun i hi => h i (by omega)); have h2 := h n (by omega); rw [sm]; omega
theorem sm_le {f g : Nat → Int} : ∀ {n : Nat}, (∀ i, i < n → f i ≤ g i) → sm f n ≤ sm g n := by
  intro n
  induction n with
  | zero => intro _; exact Int.le_refl _
  | succ n ih => intro h; have h1 := ih (fun i hi => h i (by omega)); have h2 := h n (by omega); rw [sm, sm]; omega
theorem sm_zero {f : Nat → Int} {n : Nat} (h : ∀ i, i < n → f i = 0) : sm f n = 0 := by
  rw [sm_congr (g := fun _ => 0) h]
  induction n with
  | zero => rfl
  | succ n ih => rw [sm, ih (fun i hi => h i (by omega))]; rfl
theorem sm_add {f g : Nat → Int} : ∀ {n : Nat}, sm (fun i => f i + g i) n = sm f n + sm g n := by
  intro n
  induction n with
  | zero => rfl
  | succ n ih => rw [sm, sm, sm, ih]; omega
theorem sm_eq_zero {f : Nat → Int} : ∀ {n : Nat}, (∀ i, i < n → 0 ≤ f i) → sm f n = 0 → ∀ i, i < n → f i = 0 := by
  intro n
  induction n with
  | zero => intro _ _ i hi; omega
  | succ n ih =>
    intro h hs i hi
    rw [sm] at hs
    have h1 := sm_nonneg (n := n) (f := f) (fun i hi => h i (by omega))
    have h2 := h n (by omega)
    by_cases e : i = n
    · subst e; omega
    · exact ih (fun i hi => h i (by omega)) (by omega) i (by omega)
theorem sm_single {f : Nat → Int} {n p : Nat} (hp : p < n) (h : ∀ i, i < n → i ≠ p → f i = 0) : sm f n = f p := by
  have := sm_upd (f := fun _ => 0) (g := f) hp h
  rw [sm_zero (f := fun _ => 0) (fun _ _ => rfl)] at this
  omega
theorem sm_mem {f : Nat → Int} {n p : Nat} (h : ∀ i, i < n → 0 ≤ f i) (hp : p < n) : f p ≤ sm f n := by
  have h1 := sm_upd (f := fun i => if i = p then 0 else f i) (g := f) hp (fun i _ hne => by simp [hne])
  have h2 := sm_nonneg (f := fun i => if i = p then 0 else f i) (n := n) (fun i hi => by split; omega; exact h i hi)
  simp at h1
  omega

/-! ## nets -/
structure Net where
  k : Nat
  n : Nat → Nat
  to : Nat → Nat → Nat
  back : Nat → Nat → Nat

structure Net.Wf (N : Net) : Prop where
  to_lt : ∀ i, i < N.k → ∀ j, j < N.n i → N.to i j < N.k
  to_ne : ∀ i, i < N.k → ∀ j, j < N.n i → N.to i j ≠ i
  bk_lt : ∀ i, i < N.k → ∀ j, j < N.n i → N.back i j < N.n (N.to i j)
  bk_to : ∀ i, i < N.k → ∀ j, j < N.n i → N.to (N.to i j) (N.back i j) = i
  bk_bk : ∀ i, i < N.k → ∀ j, j < N.n i → N.back (N.to i j) (N.back i j) = j

abbrev RM := Nat → Nat → Int
/-- What is left from a set of nodes to the others. -/
def resid (N : Net) (r : RM) (S : Nat → Bool) : Int := sm (fun i => sm (fun j => if S i = true ∧ S (N.to i j) = false then r i j else 0) (N.n i)) N.k
def ind (S : Nat → Bool) (v : Nat) : Int := if S v = true then 1 else 0
def put2 (r : RM) (a b : Nat) (v : Int) : RM := fun i j => if i = a ∧ j = b then v else r i j
theorem put2_same {r : RM} {a b : Nat} {v : Int} : put2 r a b v a b = v := by unfold put2; exact if_pos ⟨rfl, rfl⟩
theorem put2_ne {r : RM} {a b i j : Nat} {v : Int} (h : ¬ (i = a ∧ j = b)) : put2 r a b v i j = r i j := if_neg h
theorem resid_put {N : Net} {r : RM} {S : Nat → Bool} {a b : Nat} {v : Int} (ha : a < N.k) (hb : b < N.n a) :
    resid N (put2 r a b v) S = resid N r S + (if S a = true ∧ S (N.to a b) = false then v - r a b else 0) := by
  unfold resid
  have h1 := sm_upd (f := fun i => sm (fun j => if S i = true ∧ S (N.to i j) = false then r i j else 0) (N.n i))
    (g := fun i => sm (fun j => if S i = true ∧ S (N.to i j) = false then put2 r a b v i j else 0) (N.n i)) ha
    (fun i hi hne => sm_congr fun j hj => by rw [put2_ne (fun h => hne h.1)])
  have h2 := sm_upd (f := fun j => if S a = true ∧ S (N.to a j) = false then r a j else 0) (g := fun j => if S a = true ∧ S (N.to a j) = false then put2 r a b v a j else 0) hb
    (fun j hj hne => by rw [put2_ne (fun h => hne h.2)])
  rw [h1, h2, put2_same]
  split <;> omega
/-- So many more go along an edge. -/
def along (N : Net) (r : RM) (a b : Nat) (m : Int) : RM := put2 (put2 r a b (r a b - m)) (N.to a b) (N.back a b) (r (N.to a b) (N.back a b) + m)
section
variable {N : Net} {r r1 r2 r' : RM} {a b : Nat} {m : Int}
theorem along_at (W : N.Wf) (ha : a < N.k) (hb : b < N.n a) : along N r a b m a b = r a b - m := by
  unfold along
  rw [put2_ne (fun h => W.to_ne a ha b hb h.1.symm), put2_same]
theorem along_bk : along N r a b m (N.to a b) (N.back a b) = r (N.to a b) (N.back a b) + m := put2_same
theorem along_ne {i j : Nat} (h1 : ¬ (i = a ∧ j = b)) (h2 : ¬ (i = N.to a b ∧ j = N.back a b)) : along N r a b m i j = r i j := by unfold along; rw [put2_ne h2, put2_ne h1]
theorem resid_along (W : N.Wf) (ha : a < N.k) (hb : b < N.n a) (S : Nat → Bool) : resid N (along N r a b m) S = resid N r S - m * (ind S a - ind S (N.to a b)) := by
  unfold along
  rw [resid_put (W.to_lt a ha b hb) (W.bk_lt a ha b hb), resid_put ha hb, put2_ne (fun h => W.to_ne a ha b hb h.1), W.bk_to a ha b hb]
  unfold ind
  cases h1 : S a <;> cases h2 : S (N.to a b) <;> simp <;> omega

structure Ok (N : Net) (r : RM) (B : Int) : Prop where
  nn : ∀ i, i < N.k → ∀ j, j < N.n i → 0 ≤ r i j
  pair : ∀ i, i < N.k → ∀ j, j < N.n i → r i j + r (N.to i j) (N.back i j) ≤ B
theorem Ok.le {B : Int} (W : N.Wf) (h : Ok N r B) {i j : Nat} (hi : i < N.k) (hj : j < N.n i) : r i j ≤ B := by
  have h1 := h.pair i hi j hj
  have h2 := h.nn _ (W.to_lt i hi j hj) _ (W.bk_lt i hi j hj)
  omega
theorem resid_nn {B : Int} {S : Nat → Bool} (h : Ok N r B) : 0 ≤ resid N r S := sm_nonneg fun i hi => sm_nonneg fun j hj => by
  split
  · exact h.nn i hi j hj
  · exact Int.le_refl _
/-- m more come from u to x. -/
structure Fl (N : Net) (r r' : RM) (u x : Nat) (m : Int) : Prop where
  cut : ∀ S, resid N r' S = resid N r S - m * (ind S u - ind S x)
  pair : ∀ i, i < N.k → ∀ j, j < N.n i → r' i j + r' (N.to i j) (N.back i j) = r i j + r (N.to i j) (N.back i j)
  nn : ∀ i, i < N.k → ∀ j, j < N.n i → 0 ≤ r' i j
theorem Fl.ok {B : Int} {u x : Nat} (h : Fl N r r' u x m) (o : Ok N r B) : Ok N r' B := ⟨h.nn, fun i hi j hj => by rw [h.pair i hi j hj]; exact o.pair i hi j hj⟩
theorem Fl.zero {B : Int} {u x : Nat} (o : Ok N r B) : Fl N r r u x 0 := ⟨fun S => by rw [Int.zero_mul]; omega, fun _ _ _ _ => rfl, o.nn⟩
theorem Fl.here {B : Int} {x : Nat} (o : Ok N r B) : Fl N r r x x m := ⟨fun S => by rw [Int.sub_self, Int.mul_zero]; omega, fun _ _ _ _ => rfl, o.nn⟩
theorem Fl.more {m' : Int} {u x : Nat} (h : Fl N r r1 u x m) (k : Fl N r1 r2 u x m') : Fl N r r2 u x (m + m') :=
  ⟨fun S => by rw [k.cut S, h.cut S, Int.add_mul]; omega, fun i hi j hj => (k.pair i hi j hj).trans (h.pair i hi j hj), k.nn⟩
/-- .. along an edge, and on. -/
theorem Fl.step (W : N.Wf) {x : Nat} (ha : a < N.k) (hb : b < N.n a) (h : Fl N r r1 (N.to a b) x m) (h0 : 0 ≤ m) (hm : m ≤ r1 a b) : Fl N r (along N r1 a b m) a x m := by
  refine ⟨fun S => ?_, fun i hi j hj => ?_, fun i hi j hj => ?_⟩
  · rw [resid_along W ha hb, h.cut S, Int.mul_sub, Int.mul_sub, Int.mul_sub]; omega
  · rw [← h.pair i hi j hj]
    by_cases h1 : i = a ∧ j = b
    · obtain ⟨rfl, rfl⟩ := h1
      rw [along_at W ha hb, along_bk]; omega
    · by_cases h2 : i = N.to a b ∧ j = N.back a b
      · obtain ⟨rfl, rfl⟩ := h2
        rw [W.bk_to a ha b hb, W.bk_bk a ha b hb, along_bk, along_at W ha hb]; omega
      · have e1 := along_ne (r := r1) (m := m) h1 h2
        rw [e1]
        congr 1
        refine along_ne ?_ ?_
        · rintro ⟨h3, h4⟩
          apply h2
          have := W.bk_to i hi j hj
          have h5 := W.bk_bk i hi j hj
          rw [h3, h4] at this h5
          exact ⟨this.symm, h5.symm⟩
        · rintro ⟨h3, h4⟩
          apply h1
          have := W.bk_to i hi j hj
          have h5 := W.bk_bk i hi j hj
          rw [h3, h4, W.bk_to a ha b hb] at this
          rw [h3, h4, W.bk_bk a ha b hb] at h5
          exact ⟨this.symm, h5.symm⟩
  · by_cases h1 : i = a ∧ j = b
    · obtain ⟨rfl, rfl⟩ := h1
      rw [along_at W ha hb]; omega
    · by_cases h2 : i = N.to a b ∧ j = N.back a b
      · obtain ⟨rfl, rfl⟩ := h2
        rw [along_bk]
        have := h.nn _ (W.to_lt a ha b hb) _ (W.bk_lt a ha b hb)
        omega
      · rw [along_ne h1 h2]; exact h.nn i hi j hj
end

/-! ## levels -/
def cnt (p : Nat → Bool) : Nat → Nat
  | 0 => 0
  | n + 1 => cnt p n + (if p n = true then 1 else 0)
theorem cnt_le {p : Nat → Bool} : ∀ n, cnt p n ≤ n := by
  intro n
  induction n with
  | zero => exact Nat.le_refl _
  | succ n ih => rw [cnt]; split <;> omega
theorem cnt_congr {p q : Nat → Bool} : ∀ {n : Nat}, (∀ i, i < n → p i = q i) → cnt p n = cnt q n := by
  intro n
  induction n with
  | zero => intro _; rfl
  | succ n ih => intro h; rw [cnt, cnt, ih (fun i hi => h i (by omega)), h n (by omega)]
theorem cnt_one {p q : Nat → Bool} {v : Nat} : ∀ {n : Nat}, v < n → p v = false → q v = true → (∀ i, i < n → i ≠ v → q i = p i) → cnt q n = cnt p n + 1 := by
  intro n
  induction n with
  | zero => intro h; omega
  | succ n ih =>
    intro hv hp hq h
    rw [cnt, cnt]
    by_cases e : v = n
    · subst e
      rw [cnt_congr (p := q) (q := p) (fun i hi => h i (by omega) (by omega)), hp, hq]
      simp
    · rw [ih (by omega) hp hq (fun i hi hne => h i (by omega) hne), h n (by omega) (fun e' => e e'.symm)]
      omega
theorem cnt_none {p : Nat → Bool} {n : Nat} (h : ∀ i, i < n → p i = false) : cnt p n = 0 := by
  induction n with
  | zero => rfl
  | succ n ih => rw [cnt, ih (fun i hi => h i (by omega)), h n (by omega)]; rfl

/-- How far each node lies behind the beginning, along edges with room. -/
structure LevOk (N : Net) (r : RM) (b : Nat) (L : Nat → Int) : Prop where
  b0 : L b = 0
  rng : ∀ v, v < N.k → -1 ≤ L v ∧ L v < N.k
  cl : ∀ u, u < N.k → 0 ≤ L u → ∀ j, j < N.n u → 0 < r u j → 0 ≤ L (N.to u j)
  pred : ∀ v, v < N.k → 0 ≤ L v → v = b ∨ ∃ u, u < N.k ∧ ∃ j, j < N.n u ∧ 0 ≤ L u ∧ 0 < r u j ∧ N.to u j = v ∧ L v = L u + 1

/-- The search for them under way: q: all that were found, h of them are done, and J edges of the next one. -/
structure Bfs (N : Net) (r : RM) (b : Nat) (L : Nat → Int) (q : Nat → Nat) (ql h J : Nat) : Prop where
  b0 : L b = 0
  low : ∀ v, v < N.k → -1 ≤ L v
  mem : ∀ i, i < ql → q i < N.k ∧ 0 ≤ L (q i) ∧ L (q i) ≤ i
  cover : ∀ v, v < N.k → 0 ≤ L v → ∃ i, i < ql ∧ q i = v
  cnt : cnt (fun v => decide (0 ≤ L v)) N.k = ql
  pred : ∀ v, v < N.k → 0 ≤ L v → v = b ∨ ∃ u, u < N.k ∧ ∃ j, j < N.n u ∧ 0 ≤ L u ∧ 0 < r u j ∧ N.to u j = v ∧ L v = L u + 1
  cl : ∀ i, i < h → ∀ j, j < N.n (q i) → 0 < r (q i) j → 0 ≤ L (N.to (q i) j)
  part : ∀ j, j < J → j < N.n (q h) → 0 < r (q h) j → 0 ≤ L (N.to (q h) j)
section
variable {N : Net} {r : RM} {b : Nat} {L : Nat → Int} {q : Nat → Nat} {ql h J : Nat}
theorem Bfs.le (B : Bfs N r b L q ql h J) : ql ≤ N.k := by rw [← B.cnt]; exact cnt_le _
theorem Bfs.start (hb : b < N.k) (hL : ∀ v, v < N.k → L v = if v = b then 0 else -1) (hq : q 0 = b) : Bfs N r b L q 1 0 0 := by
  have hLb : L b = 0 := by rw [hL b hb, if_pos rfl]
  refine ⟨hLb, fun v hv => ?_, fun i hi => ?_, fun v hv h0 => ?_, ?_, fun v hv h0 => ?_, fun i hi => absurd hi (by omega), fun j hj => absurd hj (by omega)⟩
  · rw [hL v hv]; split <;> omega
  · have : i = 0 := by omega
    subst this
    rw [hq]
    exact ⟨hb, by omega, by omega⟩
  · rw [hL v hv] at h0
    split at h0
    · rename_i e; exact ⟨0, by omega, by rw [hq, e]⟩
    · omega
  · have := cnt_one (p := fun _ => false) (q := fun v => decide (0 ≤ L v)) (v := b) (n := N.k) hb rfl (by simp [hLb]) (fun i hi hne => by simp [hL i hi, hne])
    rw [this, cnt_none (fun _ _ => rfl)]
  · rw [hL v hv] at h0
    split at h0
    · rename_i e; exact .inl e
    · omega
theorem Bfs.skip (B : Bfs N r b L q ql h J) (hs : ¬ (0 < r (q h) J ∧ L (N.to (q h) J) < 0)) : Bfs N r b L q ql h (J + 1) := by
  refine ⟨B.b0, B.low, B.mem, B.cover, B.cnt, B.pred, B.cl, fun j hj hn hr => ?_⟩
  by_cases e : j = J
  · subst e; omega
  · exact B.part j (by omega) hn hr
theorem Bfs.visit (W : N.Wf) (B : Bfs N r b L q ql h J) (hh : h < ql) (hJ : J < N.n (q h)) (hr : 0 < r (q h) J) (hv : L (N.to (q h) J) < 0) :
    Bfs N r b (upd L (N.to (q h) J) (L (q h) + 1)) (upd q ql (N.to (q h) J)) (ql + 1) h (J + 1) := by
  obtain ⟨hk, hL0, hLi⟩ := B.mem h hh
  have hvk := W.to_lt _ hk J hJ
  have hne : ∀ v, 0 ≤ L v → v ≠ N.to (q h) J := fun v h0 e => by subst e; omega
  have hqne : ∀ i, i < ql → upd q ql (N.to (q h) J) i = q i := fun i hi => upd_ne _ _ (by omega)
  have hge : ∀ v, 0 ≤ L v → 0 ≤ upd L (N.to (q h) J) (L (q h) + 1) v := fun v h0 => by rw [upd_ne _ _ (hne v h0)]; exact h0
  have hbk := hne b (by rw [B.b0]; omega)
  refine ⟨by rw [upd_ne _ _ hbk]; exact B.b0, fun v hv' => ?_, fun i hi => ?_, fun v hv' h0 => ?_, ?_, fun v hv' h0 => ?_, fun i hi j hj hr' => ?_, fun j hj hn hr' => ?_⟩
  · by_cases e : v = N.to (q h) J
    · subst e; rw [upd_same]; omega
    · rw [upd_ne _ _ e]; exact B.low v hv'
  · by_cases e : i = ql
    · subst e; rw [upd_same, upd_same]; exact ⟨hvk, by omega, by omega⟩
    · rw [hqne i (by omega)]
      obtain ⟨h1, h2, h3⟩ := B.mem i (by omega)
      rw [upd_ne _ _ (hne _ h2)]
      exact ⟨h1, h2, h3⟩
  · by_cases e : v = N.to (q h) J
    · subst e; exact ⟨ql, by omega, upd_same _ _ _⟩
    · rw [upd_ne _ _ e] at h0
      obtain ⟨i, hi, he⟩ := B.cover v hv' h0
      exact ⟨i, by omega, by rw [hqne i hi]; exact he⟩
  · rw [← B.cnt]
    refine cnt_one (v := N.to (q h) J) hvk (by simp; omega) (by simp [upd_same]; omega) (fun i hi hn => by simp [upd_ne _ _ hn])
  · by_cases e : v = N.to (q h) J
    · subst e
      refine .inr ⟨q h, hk, J, hJ, hge _ hL0, hr, rfl, ?_⟩
      rw [upd_same, upd_ne _ _ (hne _ hL0)]
    · rw [upd_ne _ _ e] at h0
      rcases B.pred v hv' h0 with h1 | ⟨u, hu, j, hj, h1, h2, h3, h4⟩
      · exact .inl h1
      · refine .inr ⟨u, hu, j, hj, hge u h1, h2, h3, ?_⟩
        rw [upd_ne _ _ e, upd_ne _ _ (hne u h1)]; exact h4
  · rw [hqne i (by omega)] at hj hr' ⊢
    exact hge _ (B.cl i hi j hj hr')
  · rw [hqne h hh] at hn hr' ⊢
    by_cases e : j = J
    · subst e; rw [upd_same]; omega
    · exact hge _ (B.part j (by omega) hn hr')
theorem Bfs.next (B : Bfs N r b L q ql h J) (hJ : N.n (q h) ≤ J) : Bfs N r b L q ql (h + 1) 0 := by
  refine ⟨B.b0, B.low, B.mem, B.cover, B.cnt, B.pred, fun i hi j hj hr => ?_, fun j hj => absurd hj (by omega)⟩
  by_cases e : i = h
  · subst e; exact B.part j (by omega) hj hr
  · exact B.cl i (by omega) j hj hr
theorem Bfs.done (B : Bfs N r b L q ql h J) (hh : ql ≤ h) : LevOk N r b L := by
  refine ⟨B.b0, fun v hv => ⟨B.low v hv, ?_⟩, fun u hu h0 j hj hr => ?_, B.pred⟩
  · by_cases h0 : 0 ≤ L v
    · obtain ⟨i, hi, he⟩ := B.cover v hv h0
      have := (B.mem i hi).2.2
      have h2 := B.le
      rw [he] at this
      omega
    · omega
  · obtain ⟨i, hi, he⟩ := B.cover u hu h0
    subst he
    exact B.cl i (by omega) j hj hr
/-- What is reached is the least set that nothing leads out of. -/
theorem LevOk.least (h : LevOk N r b L) {S : Nat → Bool} (hb : S b = true) (hc : ∀ u, u < N.k → S u = true → ∀ j, j < N.n u → 0 < r u j → S (N.to u j) = true) : ∀ v, v < N.k → 0 ≤ L v → S v = true := by
  have key : ∀ (d : Nat) v, v < N.k → 0 ≤ L v → L v = d → S v = true := by
    intro d
    induction d with
    | zero =>
      intro v hv h0 hd
      rcases h.pred v hv h0 with rfl | ⟨u, hu, j, hj, h1, h2, h3, h4⟩
      · exact hb
      · omega
    | succ d ih =>
      intro v hv h0 hd
      rcases h.pred v hv h0 with rfl | ⟨u, hu, j, hj, h1, h2, h3, h4⟩
      · exact hb
      · rw [← h3]; exact hc u hu (ih u hu h1 (by omega)) j hj h2
  intro v hv h0
  exact key (L v).toNat v hv h0 (by omega)
end

/-! ## a push -/
inductive Path (N : Net) (r : RM) (L : Nat → Int) (x : Nat) : Nat → Prop
  | stop : Path N r L x x
  | step {u j : Nat} : j < N.n u → 0 < r u j → L (N.to u j) = L u + 1 → Path N r L x (N.to u j) → Path N r L x u
theorem path_of {N : Net} {r : RM} {b x : Nat} {L : Nat → Int} (h : LevOk N r b L) (hx : x < N.k) (h0 : 0 ≤ L x) : Path N r L x b := by
  have key : ∀ (d : Nat) v, v < N.k → 0 ≤ L v → L v = d → Path N r L x v → Path N r L x b := by
    intro d
    induction d with
    | zero =>
      intro v hv h0 hd hp
      rcases h.pred v hv h0 with rfl | ⟨u, hu, j, hj, h1, h2, h3, h4⟩
      · exact hp
      · omega
    | succ d ih =>
      intro v hv h0 hd hp
      rcases h.pred v hv h0 with rfl | ⟨u, hu, j, hj, h1, h2, h3, h4⟩
      · exact hp
      · exact ih u hu h1 (by omega) (.step hj h2 (by rw [h3]; exact h4) (by rw [h3]; exact hp))
  exact key (L x).toNat x hx h0 (by omega) .stop
/-- No way leads on along the edges that were passed over. -/
def Dead (N : Net) (r : RM) (L : Nat → Int) (x : Nat) (nx : Nat → Nat) : Prop := ∀ u, u < N.k → ∀ j, j < nx u → j < N.n u → 0 < r u j → L (N.to u j) = L u + 1 → ¬ Path N r L x (N.to u j)
theorem path_congr {N : Net} (W : N.Wf) {r r' : RM} {L : Nat → Int} {x : Nat} (h : ∀ i, i < N.k → ∀ j, j < N.n i → r' i j = r i j) : ∀ {u}, Path N r' L x u → u < N.k → Path N r L x u := by
  intro u hp
  induction hp with
  | stop => intro _; exact .stop
  | step hj hr hl _ ih => intro hu; exact .step hj (by rw [← h _ hu _ hj]; exact hr) hl (ih (W.to_lt _ hu _ hj))
theorem dead_congr {N : Net} (W : N.Wf) {r r' : RM} {L : Nat → Int} {x : Nat} {nx : Nat → Nat} (h : ∀ i, i < N.k → ∀ j, j < N.n i → r' i j = r i j) (hd : Dead N r L x nx) : Dead N r' L x nx := by
  intro u hu j hj hn hr hl hp
  rw [h u hu j hn] at hr
  exact hd u hu j hj hn hr hl (path_congr W h hp (W.to_lt u hu j hn))

/-- Between two edges of a push from u. -/
structure PushI (N : Net) (L : Nat → Int) (x u : Nat) (r : RM) (nx : Nat → Nat) (m : Int) (r' : RM) (nx' : Nat → Nat) : Prop where
  fl : Fl N r r' u x m
  low : ∀ i, i < N.k → ∀ j, j < N.n i → L i < L u → r' i j = r i j
  nxl : ∀ i, i < N.k → nx i ≤ nx' i ∧ nx' i ≤ N.n i
  nlow : ∀ i, i < N.k → L i < L u → nx' i = nx i
  zero : m = 0 → (∀ i, i < N.k → ∀ j, j < N.n i → r' i j = r i j) ∧ (Dead N r L x nx → Dead N r L x nx')
/-- What a push has done. -/
structure PushR (N : Net) (L : Nat → Int) (x u : Nat) (r : RM) (nx : Nat → Nat) (most m : Int) (r' : RM) (nx' : Nat → Nat) : Prop extends PushI N L x u r nx m r' nx' where
  m0 : 0 ≤ m
  ml : m ≤ most
  none : m = 0 → Dead N r L x nx → 0 < most → ¬ Path N r L x u
section
variable {N : Net} {L : Nat → Int} {x u j : Nat} {r r1 r2 r3 : RM} {nx nx1 nx2 : Nat → Nat} {most m sent : Int}
theorem PushI.start {B : Int} (o : Ok N r B) (hn : ∀ i, i < N.k → nx i ≤ N.n i) : PushI N L x u r nx 0 r nx :=
  ⟨Fl.zero o, fun _ _ _ _ _ => rfl, fun i hi => ⟨Nat.le_refl _, hn i hi⟩, fun _ _ _ => rfl, fun _ => ⟨fun _ _ _ _ => rfl, fun h => h⟩⟩
theorem PushR.here {B : Int} (o : Ok N r B) (hn : ∀ i, i < N.k → nx i ≤ N.n i) (hm : 0 ≤ most) : PushR N L x x r nx most most r nx :=
  { fl := Fl.here o, low := fun _ _ _ _ _ => rfl, nxl := fun i hi => ⟨Nat.le_refl _, hn i hi⟩, nlow := fun _ _ _ => rfl, zero := fun _ => ⟨fun _ _ _ _ => rfl, fun h => h⟩,
    m0 := hm, ml := Int.le_refl _, none := fun h _ h0 => by omega }
/-- An edge that leads on: the push behind it, and the edge. -/
theorem PushI.edge (W : N.Wf) (I : PushI N L x u r nx sent r1 nx1) (hu : u < N.k) (hj : j < N.n u) (hl : L (N.to u j) = L u + 1) (hs : 0 ≤ sent)
    (K : PushR N L x (N.to u j) r1 nx1 (min (most - sent) (r1 u j)) m r2 nx2) : PushI N L x u r nx (sent + m) (along N r2 u j m) nx2 := by
  have hru : r2 u j = r1 u j := K.low u hu j hj (by omega)
  have hm : m ≤ r2 u j := by have := K.ml; omega
  have f2 := Fl.step W hu hj K.fl K.m0 hm
  refine ⟨I.fl.more f2, fun i hi q hq hL => ?_, fun i hi => ?_, fun i hi hL => ?_, fun h0 => ?_⟩
  · rw [along_ne (fun h => by rw [h.1] at hL; omega) (fun h => by rw [h.1] at hL; omega), K.low i hi q hq (by omega), I.low i hi q hq hL]
  · have h1 := I.nxl i hi; have h2 := K.nxl i hi; omega
  · rw [K.nlow i hi (by omega), I.nlow i hi hL]
  · have e1 : sent = 0 := by have := K.m0; omega
    have e2 : m = 0 := by omega
    obtain ⟨a1, a2⟩ := I.zero e1
    obtain ⟨b1, b2⟩ := K.zero e2
    refine ⟨fun i hi q hq => ?_, fun hd => ?_⟩
    · subst e2
      by_cases h1 : i = u ∧ q = j
      · obtain ⟨rfl, rfl⟩ := h1
        rw [along_at W hu hj, b1 i hi q hq, a1 i hi q hq]; omega
      · by_cases h2 : i = N.to u j ∧ q = N.back u j
        · obtain ⟨rfl, rfl⟩ := h2
          rw [along_bk, b1 _ hi _ hq, a1 _ hi _ hq]; omega
        · rw [along_ne h1 h2, b1 i hi q hq, a1 i hi q hq]
    · have d1 := a2 hd
      have d2 := b2 (dead_congr W a1 d1)
      exact dead_congr W (fun i hi q hq => (a1 i hi q hq).symm) d2
theorem PushI.full (I : PushI N L x u r nx sent r1 nx1) (hs : 0 ≤ sent) (h : sent = most) : PushR N L x u r nx most sent r1 nx1 :=
  { I with m0 := hs, ml := by omega, none := fun h0 _ h1 => by omega }
/-- The next edge's turn. -/
theorem PushI.skip (W : N.Wf) (I : PushI N L x u r nx sent r1 nx1) (hu : u < N.k) (hj : nx1 u = j) (hjn : j < N.n u) (hp : sent = 0 → Dead N r L x nx → 0 < r u j → L (N.to u j) = L u + 1 → ¬ Path N r L x (N.to u j)) :
    PushI N L x u r nx sent r1 (upd nx1 u (j + 1)) := by
  refine ⟨I.fl, I.low, fun i hi => ?_, fun i hi hL => ?_, fun h0 => ⟨(I.zero h0).1, fun hd => ?_⟩⟩
  · have := I.nxl i hi
    by_cases e : i = u
    · subst e; rw [upd_same]; omega
    · rw [upd_ne _ _ e]; exact this
  · rw [upd_ne _ _ (fun e => by subst e; omega)]; exact I.nlow i hi hL
  · intro v hv q hq hn hr hl
    by_cases e : v = u
    · subst e
      rw [upd_same] at hq
      by_cases e2 : q = j
      · subst e2; exact hp h0 hd hr hl
      · exact (I.zero h0).2 hd v hv q (by omega) hn hr hl
    · rw [upd_ne _ _ e] at hq
      exact (I.zero h0).2 hd v hv q hq hn hr hl
theorem PushI.done (I : PushI N L x u r nx sent r1 nx1) (hu : u < N.k) (hux : u ≠ x) (hn : N.n u ≤ nx1 u) (hs : 0 ≤ sent) (hm : sent ≤ most) : PushR N L x u r nx most sent r1 nx1 := by
  refine { I with m0 := hs, ml := hm, none := ?_ }
  intro h0 hd _ hp
  cases hp with
  | stop => exact hux rfl
  | step hj hr hl hp => exact (I.zero h0).2 hd u hu _ (by omega) hj hr hl hp
end
end Go.Proofs.Ytlmddkekeoebcaa
