/- Layer 2, plain: the document's net, and that it is the web. -/
import Derived.Test.YtdfjdkhgdmndjaaWit
namespace Go.Proofs.Ytdfjdkhgdmndjaa
set_option linter.unusedVariables false
set_option linter.unusedSimpArgs false

/-- M is the greatest closed matrix with a property. -/
structure Best (n : Nat) (C : IM → Prop) (M : IM) : Prop where
  good : Good n M
  sat : C M
  best : ∀ E, Good n E → C E → ∀ x y, x < n → y < n → E x y ≤ M x y

theorem Best.same {n : Nat} {C : IM → Prop} {M M' : IM} (h : Best n C M) (h' : Best n C M') : ∀ x y, x < n → y < n → M x y = M' x y := by
  intro x y hx hy
  have h1 := h.best M' h'.good h'.sat x y hx hy
  have h2 := h'.best M h.good h.sat x y hx hy
  omega

theorem Best.arc {n : Nat} {C : IM → Prop} {M : IM} {a b : Nat} {far : Int} (h : Best n C M) (hle : ∀ M', (∀ x y, x < n → y < n → M' x y ≤ M x y) → C M') (ha : a < n) (hb : b < n) (hf : 0 ≤ far + M b a) :
    Best n (fun E => C E ∧ E a b ≤ far) (Go.Proofs.Ytdfjdkhgdmndjaa.arc M a b far) := by
  rcases arc_cases (far := far) h.good ha hb with ⟨g, f, _⟩ | ⟨h1, _⟩
  · refine ⟨g, ⟨hle _ fun x y hx hy => arc_le M a b far x y, ?_⟩, fun E hE ⟨hC, hab⟩ x y hx hy => ?_⟩
    · have h1 := h.good.diag a ha
      have h2 := h.good.diag b hb
      rw [f a b ha hb]; omega
    · rw [f x y hx hy]
      have e1 := h.best E hE hC x y hx hy
      have e2 := h.best E hE hC x a hx ha
      have e3 := h.best E hE hC b y hb hy
      have e4 := hE.tri x a y hx ha hy
      have e5 := hE.tri a b y ha hb hy
      omega
  · omega

theorem Best.noArc {n : Nat} {C : IM → Prop} {M : IM} {a b : Nat} {far : Int} (h : Best n C M) (ha : a < n) (hb : b < n) (hf : far + M b a < 0) (E : IM) (hE : Good n E) (hC : C E) : ¬ E a b ≤ far := by
  intro hab
  have e1 := h.best E hE hC b a hb ha
  have e2 := hE.tri a b a ha hb ha
  have e3 := hE.diag a ha
  omega

/-- A span. -/
def inSpan (i j : Nat) (lo hi : Int) (E : IM) : Prop := E i j ≤ hi ∧ E j i ≤ -lo
def lower (n : Nat) (C : IM → Prop) : Prop := ∀ M M' : IM, C M → (∀ x y, x < n → y < n → M' x y ≤ M x y) → C M'
theorem lower_span {n : Nat} {C : IM → Prop} {i j : Nat} {lo hi : Int} (h : lower n C) (hi' : i < n) (hj : j < n) : lower n (fun E => C E ∧ inSpan i j lo hi E) := by
  intro M M' ⟨h1, h2, h3⟩ hle
  have e1 := hle i j hi' hj
  have e2 := hle j i hj hi'
  exact ⟨h M M' h1 hle, by omega, by omega⟩

theorem Best.tight {n : Nat} {C : IM → Prop} {M : IM} {i j : Nat} {lo hi : Int} (h : Best n C M) (hl : lower n C) (hi' : i < n) (hj : j < n) (hd : diagB n (tightM M i j lo hi) = true) :
    Best n (fun E => C E ∧ inSpan i j lo hi E) (tightM M i j lo hi) := by
  rw [diagB_iff] at hd
  unfold tightM at *
  rcases arc_cases (far := hi) h.good hi' hj with ⟨g1, f1, p1⟩ | ⟨_, k, hk, hneg⟩
  · have b1 := h.arc (fun M' h' => hl _ _ h.sat h') hi' hj p1
    rcases arc_cases (far := -lo) g1 hj hi' with ⟨g2, f2, p2⟩ | ⟨_, k, hk, hneg⟩
    · have b2 := b1.arc (fun M' h' => ⟨hl _ _ b1.sat.1 h', by have := h' i j hi' hj; have := b1.sat.2; omega⟩) hj hi' p2
      exact ⟨b2.good, ⟨b2.sat.1.1, b2.sat.1.2, b2.sat.2⟩, fun E hE ⟨hC, h1, h2⟩ => b2.best E hE ⟨⟨hC, h1⟩, h2⟩⟩
    · have := hd k hk; omega
  · have h1 := hd k hk
    have h2 := arc_le (Go.Proofs.Ytdfjdkhgdmndjaa.arc M i j hi) j i (-lo) k k
    omega

theorem Best.noTight {n : Nat} {C : IM → Prop} {M : IM} {i j : Nat} {lo hi : Int} (h : Best n C M) (hl : lower n C) (hi' : i < n) (hj : j < n) (hd : diagB n (tightM M i j lo hi) = false) (E : IM) (hE : Good n E) (hC : C E) : ¬ inSpan i j lo hi E := by
  rintro ⟨h1, h2⟩
  rcases arc_cases (far := hi) h.good hi' hj with ⟨g1, f1, p1⟩ | ⟨p1, _⟩
  · have b1 := h.arc (fun M' h' => hl _ _ h.sat h') hi' hj p1
    rcases arc_cases (far := -lo) g1 hj hi' with ⟨g2, _, _⟩ | ⟨p2, _⟩
    · have : diagB n (tightM M i j lo hi) = true := by
        rw [diagB_iff]
        intro k hk
        have := g2.diag k hk
        unfold tightM
        omega
      rw [hd] at this
      cases this
    · exact b1.noArc hj hi' p2 E hE ⟨hC, h1⟩ h2
  · exact h.noArc hi' hj p1 E hE hC h1

/-- What the chain's links and the first k gauges ask. -/
def satL (c : Chain) : Nat → IM → Prop
  | 0 => fun _ => True
  | k + 1 => fun E => satL c k E ∧ inSpan k (k + 1) c.pitch c.limit E
def satG (c : Chain) (l : List Gauge) (p : Nat → Bool) : Nat → IM → Prop
  | 0 => satL c c.links.toNat
  | k + 1 => fun E => satG c l p k E ∧ (p k = true → inSpan (l.getD k Gauge.zero).fr.toNat (l.getD k Gauge.zero).to.toNat (l.getD k Gauge.zero).lo (l.getD k Gauge.zero).hi E)

theorem satL_lower {c : Chain} {n : Nat} : ∀ k, k < n → lower n (satL c k) := by
  intro k
  induction k with
  | zero => intro _ _ _ _ _; trivial
  | succ k ih => intro hk; exact lower_span (ih (by omega)) (by omega) (by omega)
theorem gauge_in {c : Chain} {l : List Gauge} (hg : l.all (gaugeOk c.links) = true) {k : Nat} (hk : k < l.length) : (l.getD k Gauge.zero).fr.toNat < c.n ∧ (l.getD k Gauge.zero).to.toNat < c.n := by
  have h := getD_ok hg hk
  unfold gaugeOk at h
  simp only [decide_eq_true_eq] at h
  unfold Chain.n
  omega
theorem satG_lower {c : Chain} {l : List Gauge} {p : Nat → Bool} (hg : l.all (gaugeOk c.links) = true) : ∀ k, k ≤ l.length → lower c.n (satG c l p k) := by
  intro k
  induction k with
  | zero => intro _; exact satL_lower _ (by unfold Chain.n; omega)
  | succ k ih =>
    intro hk M M' ⟨h1, h2⟩ hle
    obtain ⟨g1, g2⟩ := gauge_in hg (show k < l.length by omega)
    refine ⟨ih (by omega) M M' h1 hle, fun hp => ?_⟩
    have := h2 hp
    have e1 := hle _ _ g1 g2
    have e2 := hle _ _ g2 g1
    unfold inSpan at *
    omega

theorem linksTo_best {c : Chain} (hc : chainOk c = true) {n : Nat} (hn : n ≤ 25) : ∀ k, k < n → Best n (satL c k) (linksTo c k) := by
  intro k
  induction k with
  | zero =>
    intro _
    refine ⟨M0_good n, trivial, fun E hE _ x y hx hy => ?_⟩
    show E x y ≤ M0 x y
    unfold M0
    split
    · rename_i e; subst e; have := hE.diag x hx; omega
    · exact hE.top x y hx hy
  | succ k ih =>
    intro hk
    have h1 := (linksTo_ok hc hn (k + 1) hk).1
    have hd : diagB n (tightM (linksTo c k) k (k + 1) c.pitch c.limit) = true := by
      rw [diagB_iff]; intro x hx; have := h1.diag x hx; unfold linksTo at this; omega
    exact (ih (by omega)).tight (satL_lower k (by omega)) (by omega) hk hd

theorem gto_best {c : Chain} {l : List Gauge} {p : Nat → Bool} (hc : chainOk c = true) (hg : l.all (gaugeOk c.links) = true) : ∀ k, k ≤ l.length →
    match gto c.n l p (linksTo c c.links.toNat) k with
    | some M => Best c.n (satG c l p k) M
    | none => ∀ E, Good c.n E → ¬ satG c l p k E := by
  have hc' := hc
  unfold chainOk at hc'
  simp only [decide_eq_true_eq] at hc'
  have hn : c.n ≤ 25 := by unfold Chain.n; omega
  intro k
  induction k with
  | zero => intro _; exact linksTo_best hc hn _ (by unfold Chain.n; omega)
  | succ k ih =>
    intro hk
    have h := ih (by omega)
    simp only [gto]
    cases hq : gto c.n l p (linksTo c c.links.toNat) k with
    | none =>
      rw [hq] at h
      exact fun E hE ⟨h1, _⟩ => h E hE h1
    | some M =>
      rw [hq] at h
      simp only at h ⊢
      obtain ⟨g1, g2⟩ := gauge_in hg (show k < l.length by omega)
      cases hp : p k with
      | false =>
        simp only [Bool.false_eq_true, if_false]
        exact ⟨h.good, ⟨h.sat, fun h' => by rw [hp] at h'; cases h'⟩, fun E hE ⟨h1, _⟩ => h.best E hE h1⟩
      | true =>
        simp only [if_true]
        unfold gOne
        cases hd : diagB c.n (tightM M (l.getD k Gauge.zero).fr.toNat (l.getD k Gauge.zero).to.toNat (l.getD k Gauge.zero).lo (l.getD k Gauge.zero).hi) with
        | true =>
          simp only [if_true]
          have b := h.tight (satG_lower hg k (by omega)) g1 g2 hd
          exact ⟨b.good, ⟨b.sat.1, fun _ => b.sat.2⟩, fun E hE ⟨h1, h2⟩ => b.best E hE ⟨h1, h2 hp⟩⟩
        | false =>
          simp only [Bool.false_eq_true, if_false]
          exact fun E hE ⟨h1, h2⟩ => h.noTight (satG_lower hg k (by omega)) g1 g2 hd E hE h1 (h2 hp)

theorem weave_best {c : Chain} {l : List Gauge} {p : Nat → Bool} (hc : chainOk c = true) (hg : l.all (gaugeOk c.links) = true) :
    match weaveW c l p with
    | some M => Best c.n (satG c l p l.length) M
    | none => ∀ E, Good c.n E → ¬ satG c l p l.length E := gto_best hc hg l.length (Nat.le_refl _)

/-! ## the document's net -/
def linkR (c : Chain) (k : Nat) : IM := fun x y => if y = x + 1 ∧ x < k then c.limit else if x = y + 1 ∧ y < k then -c.pitch else M0 x y
theorem linkR_step (c : Chain) (k : Nat) (x y : Nat) : mset (mset (linkR c k) k (k + 1) c.limit) (k + 1) k (-c.pitch) x y = linkR c (k + 1) x y := by
  unfold mset linkR
  by_cases h1 : x = k + 1 ∧ y = k
  · rw [if_pos h1, if_neg (by omega), if_pos (by omega)]
  · rw [if_neg h1]
    by_cases h2 : x = k ∧ y = k + 1
    · rw [if_pos h2, if_pos (by omega)]
    · rw [if_neg h2]
      by_cases h3 : y = x + 1 ∧ x < k
      · rw [if_pos h3, if_pos (by omega)]
      · by_cases h4 : x = y + 1 ∧ y < k
        · rw [if_neg h3, if_pos h4, if_neg (by omega), if_pos (by omega)]
        · rw [if_neg h3, if_neg h4, if_neg (by omega), if_neg (by omega)]
/-- One span more. -/
def oneR (M : IM) (g : Gauge) : IM :=
  mset (mset M g.fr.toNat g.to.toNat (min (M g.fr.toNat g.to.toNat) g.hi)) g.to.toNat g.fr.toNat (min (mset M g.fr.toNat g.to.toNat (min (M g.fr.toNat g.to.toNat) g.hi) g.to.toNat g.fr.toNat) (-g.lo))
def gaugeR (l : List Gauge) (M : IM) : Nat → IM
  | 0 => M
  | k + 1 => oneR (gaugeR l M k) (l.getD k Gauge.zero)
def netR (c : Chain) (l : List Gauge) : IM := gaugeR l (linkR c c.links.toNat) l.length

/-- One end more is taken for the way. -/
def fwP (M : IM) (m : Nat) : IM := fun x y => min (M x y) (M x m + M m y)
def fstg (M : IM) (m p q : Nat) : IM := fun x y => if x < p ∨ (x = p ∧ y < q) then fwP M m x y else M x y
def fwTo (n : Nat) (M : IM) : Nat → Option IM
  | 0 => some M
  | k + 1 => match fwTo n M k with
    | none => none
    | some M' => if diagB n (fwP M' k) then some (fwP M' k) else none
def buildO (c : Chain) (l : List Gauge) : Option IM := fwTo c.n (netR c l) c.n

theorem fwTo_none {n : Nat} {M : IM} {k : Nat} (h : fwTo n M k = none) : ∀ m, k ≤ m → fwTo n M m = none := by
  intro m
  induction m with
  | zero => intro hm; have : k = 0 := by omega
            subst this; exact h
  | succ m ih =>
    intro hm
    rcases Nat.lt_or_ge m k with h1 | h1
    · have : k = m + 1 := by omega
      subst this; exact h
    · simp only [fwTo, ih h1]

theorem fstg_new {M : IM} {m : Nat} (hm : M m m = 0) (p q : Nat) : min (fstg M m p q p q) (fstg M m p q p m + fstg M m p q m q) = fwP M m p q := by
  have e1 : fstg M m p q p q = M p q := by unfold fstg; rw [if_neg (by omega)]
  have e2 : fstg M m p q p m = M p m := by
    unfold fstg fwP; split
    · rw [hm]; omega
    · rfl
  have e3 : fstg M m p q m q = M m q := by
    unfold fstg fwP; split
    · rw [hm]; omega
    · rfl
  rw [e1, e2, e3]; rfl
theorem fstg_step (M : IM) (m p q x y : Nat) : mset (fstg M m p q) p q (fwP M m p q) x y = fstg M m p (q + 1) x y := by
  unfold mset
  by_cases h : x = p ∧ y = q
  · rw [if_pos h]; obtain ⟨rfl, rfl⟩ := h; unfold fstg; rw [if_pos (by omega)]
  · rw [if_neg h]; unfold fstg
    by_cases h2 : x < p ∨ (x = p ∧ y < q)
    · rw [if_pos h2, if_pos (by omega)]
    · rw [if_neg h2, if_neg (by omega)]
theorem fstg_row (M : IM) (m n p x y : Nat) (hy : y < n) : fstg M m p n x y = fstg M m (p + 1) 0 x y := by
  unfold fstg
  by_cases h2 : x < p ∨ (x = p ∧ y < n)
  · rw [if_pos h2, if_pos (by omega)]
  · rw [if_neg h2, if_neg (by omega)]
theorem fstg_zero (M : IM) (m x y : Nat) : fstg M m 0 0 x y = M x y := by
  unfold fstg; rw [if_neg (by omega)]
theorem fstg_all (M : IM) (m n x y : Nat) (hx : x < n) : fstg M m n 0 x y = fwP M m x y := by
  unfold fstg; rw [if_pos (by omega)]

/-- The least that an entry can be, before end k is taken. -/
def pw : Nat → Int
  | 0 => 10000000
  | k + 1 => 2 * pw k
theorem pw_le : ∀ k, k ≤ 25 → 0 ≤ pw k ∧ pw k ≤ 335544320000000 := by
  have h0 : ∀ k, 0 ≤ pw k := by
    intro k; induction k with
    | zero => decide
    | succ k ih => unfold pw; omega
  have h1 : ∀ k d, pw k ≤ pw (k + d) := by
    intro k d; induction d with
    | zero => exact Int.le_refl _
    | succ d ih => have := h0 (k + d); show pw k ≤ 2 * pw (k + d); omega
  intro k hk
  refine ⟨h0 k, ?_⟩
  have h2 := h1 k (25 - k)
  rw [show k + (25 - k) = 25 by omega] at h2
  have h3 : pw 25 = 335544320000000 := by decide
  omega

/-- Before end k is taken: nothing at the diagonal, and entries that are not great. -/
structure Net (n k : Nat) (M : IM) : Prop where
  diag : ∀ x, x < n → M x x = 0
  lo : ∀ x y, x < n → y < n → -(pw k) ≤ M x y
  top : ∀ x y, x < n → y < n → M x y ≤ wide

theorem Net.fstg {n k m : Nat} {M : IM} (h : Net n k M) (hm : m < n) (p q x y : Nat) (hx : x < n) (hy : y < n) : -(pw (k + 1)) ≤ fstg M m p q x y ∧ fstg M m p q x y ≤ wide := by
  have h1 := h.lo x y hx hy
  have h2 := h.lo x m hx hm
  have h3 := h.lo m y hm hy
  have h4 := h.top x y hx hy
  have h5 : pw (k + 1) = 2 * pw k := rfl
  have h6 := h.diag m hm
  have h7 := h.lo m m hm hm
  unfold Go.Proofs.Ytdfjdkhgdmndjaa.fstg fwP
  split <;> omega
theorem Net.next {n k m : Nat} {M : IM} (h : Net n k M) (hm : m < n) (hd : diagB n (fwP M m) = true) : Net n (k + 1) (fwP M m) := by
  rw [diagB_iff] at hd
  refine ⟨fun x hx => ?_, fun x y hx hy => ?_, fun x y hx hy => ?_⟩
  · have h1 := hd x hx
    have h2 := h.diag x hx
    have h3 : fwP M m x x ≤ M x x := by unfold fwP; omega
    omega
  · have := h.fstg hm n 0 x y hx hy
    rw [fstg_all M m n x y hx] at this
    exact this.1
  · have := h.fstg hm n 0 x y hx hy
    rw [fstg_all M m n x y hx] at this
    exact this.2

/-- What the net says before any end is taken, as a property. -/
def under (n : Nat) (K E : IM) : Prop := ∀ x y, x < n → y < n → E x y ≤ K x y

theorem fw_law {n : Nat} {K : IM} (hK : Net n 0 K) : ∀ k, k ≤ n →
    match fwTo n K k with
    | some M => Net n k M ∧ under n K M ∧ (∀ E, Good n E → under n K E → under n M E) ∧ ∀ x y j, x < n → y < n → j < k → M x y ≤ M x j + M j y
    | none => ∀ E, Good n E → ¬ under n K E := by
  intro k
  induction k with
  | zero => intro _; exact ⟨hK, fun _ _ _ _ => Int.le_refl _, fun _ _ h => h, fun x y j _ _ h => by omega⟩
  | succ k ih =>
    intro hk
    have h := ih (by omega)
    simp only [fwTo]
    cases hq : fwTo n K k with
    | none => rw [hq] at h; exact h
    | some M =>
      rw [hq] at h
      obtain ⟨h1, h2, h3, h4⟩ := h
      have h5 : ∀ E, Good n E → under n K E → under n (fwP M k) E := by
        intro E hE hu x y hx hy
        have e1 := h3 E hE hu x y hx hy
        have e2 := h3 E hE hu x k hx (by omega)
        have e3 := h3 E hE hu k y (by omega) hy
        have e4 := hE.tri x k y hx (by omega) hy
        unfold fwP; omega
      simp only
      cases hd : diagB n (fwP M k) with
      | true =>
        simp only [if_true]
        refine ⟨h1.next (by omega) hd, fun x y hx hy => ?_, h5, fun x y j hx hy hj => ?_⟩
        · have := h2 x y hx hy
          unfold fwP; omega
        · have d := h1.diag k (by omega)
          by_cases hjk : j = k
          · subst hjk; unfold fwP; rw [d]; omega
          · have a1 := h4 x y j hx hy (by omega)
            have a2 := h4 k y j (by omega) hy (by omega)
            have a3 := h4 x k j hx (by omega) (by omega)
            have a4 := h4 k k j (by omega) (by omega) (by omega)
            unfold fwP
            omega
      | false =>
        simp only [Bool.false_eq_true, if_false]
        intro E hE hu
        have hf : ¬ ∀ x, x < n → 0 ≤ fwP M k x x := by
          rw [← diagB_iff, hd]; simp
        apply hf
        intro x hx
        have e1 := h5 E hE hu x x hx hx
        have e2 := hE.diag x hx
        omega

theorem fw_best {n : Nat} {K : IM} (hK : Net n 0 K) : match fwTo n K n with
    | some M => Best n (under n K) M
    | none => ∀ E, Good n E → ¬ under n K E := by
  have h := fw_law hK n (Nat.le_refl _)
  cases hq : fwTo n K n with
  | none => rw [hq] at h; exact h
  | some M =>
    rw [hq] at h
    obtain ⟨h1, h2, h3, h4⟩ := h
    exact ⟨⟨h1.diag, fun x y z hx hy hz => h4 x z y hx hz hy, h1.top⟩, h2, fun E hE hu => h3 E hE hu⟩

/-! ## the net asks what the links and gauges ask -/
theorem linkR_under {c : Chain} {n : Nat} (hl : c.limit ≤ wide) (hp : 0 ≤ c.pitch) (E : IM) (hE : Good n E) : ∀ k, k < n → (under n (linkR c k) E ↔ satL c k E) := by
  intro k
  induction k with
  | zero =>
    intro _
    refine ⟨fun _ => trivial, fun _ x y hx hy => ?_⟩
    unfold linkR M0
    rw [if_neg (by omega), if_neg (by omega)]
    split
    · rename_i e; subst e; have := hE.diag x hx; omega
    · exact hE.top x y hx hy
  | succ k ih =>
    intro hk
    have h := ih (by omega)
    constructor
    · intro hu
      refine ⟨h.1 fun x y hx hy => ?_, ?_, ?_⟩
      · have h1 := hu x y hx hy
        have h2 := hE.top x y hx hy
        unfold linkR at h1 ⊢
        by_cases e1 : y = x + 1 ∧ x < k
        · rw [if_pos e1]; rw [if_pos (by omega)] at h1; exact h1
        · rw [if_neg e1]
          by_cases e2 : x = y + 1 ∧ y < k
          · rw [if_pos e2]; rw [if_neg (by omega), if_pos (by omega)] at h1; exact h1
          · rw [if_neg e2]
            unfold M0
            split
            · rename_i e; subst e; have := hE.diag x hx; omega
            · exact h2
      · have h1 := hu k (k + 1) (by omega) hk
        unfold linkR at h1; rw [if_pos (by omega)] at h1; exact h1
      · have h1 := hu (k + 1) k hk (by omega)
        unfold linkR at h1; rw [if_neg (by omega), if_pos (by omega)] at h1; exact h1
    · rintro ⟨h1, h2, h3⟩ x y hx hy
      have h4 := h.2 h1 x y hx hy
      rw [← linkR_step]
      unfold mset
      by_cases e1 : x = k + 1 ∧ y = k
      · rw [if_pos e1, e1.1, e1.2]; exact h3
      · rw [if_neg e1]
        by_cases e2 : x = k ∧ y = k + 1
        · rw [if_pos e2, e2.1, e2.2]; exact h2
        · rw [if_neg e2]; exact h4

theorem oneR_at {M : IM} {g : Gauge} (hne : g.fr.toNat ≠ g.to.toNat) (x y : Nat) : oneR M g x y = if x = g.to.toNat ∧ y = g.fr.toNat then min (M x y) (-g.lo) else if x = g.fr.toNat ∧ y = g.to.toNat then min (M x y) g.hi else M x y := by
  unfold oneR mset
  by_cases e1 : x = g.to.toNat ∧ y = g.fr.toNat
  · rw [if_pos e1, if_pos e1, if_neg (by omega), e1.1, e1.2]
  · rw [if_neg e1, if_neg e1]
    by_cases e2 : x = g.fr.toNat ∧ y = g.to.toNat
    · rw [if_pos e2, if_pos e2, e2.1, e2.2]
    · rw [if_neg e2, if_neg e2]
theorem oneR_under {n : Nat} {M E : IM} {g : Gauge} (hne : g.fr.toNat ≠ g.to.toNat) (hf : g.fr.toNat < n) (ht : g.to.toNat < n) : under n (oneR M g) E ↔ under n M E ∧ inSpan g.fr.toNat g.to.toNat g.lo g.hi E := by
  constructor
  · intro h
    refine ⟨fun x y hx hy => ?_, ?_, ?_⟩
    · have h1 := h x y hx hy
      rw [oneR_at hne] at h1
      split at h1
      · omega
      · split at h1 <;> omega
    · have h1 := h _ _ hf ht
      rw [oneR_at hne, if_neg (by omega), if_pos ⟨rfl, rfl⟩] at h1
      omega
    · have h1 := h _ _ ht hf
      rw [oneR_at hne, if_pos ⟨rfl, rfl⟩] at h1
      omega
  · rintro ⟨h, h1, h2⟩ x y hx hy
    have h3 := h x y hx hy
    rw [oneR_at hne]
    split
    · rename_i e; obtain ⟨rfl, rfl⟩ := e; omega
    · split
      · rename_i e; obtain ⟨rfl, rfl⟩ := e; omega
      · exact h3

def yes : Nat → Bool := fun _ => true
theorem gauge_ne {c : Chain} {l : List Gauge} (hg : l.all (gaugeOk c.links) = true) {k : Nat} (hk : k < l.length) : (l.getD k Gauge.zero).fr.toNat ≠ (l.getD k Gauge.zero).to.toNat := by
  have h := getD_ok hg hk
  unfold gaugeOk at h
  simp only [decide_eq_true_eq] at h
  omega
theorem gaugeR_under {c : Chain} {l : List Gauge} (hc : chainOk c = true) (hg : l.all (gaugeOk c.links) = true) (E : IM) (hE : Good c.n E) : ∀ k, k ≤ l.length → (under c.n (gaugeR l (linkR c c.links.toNat) k) E ↔ satG c l yes k E) := by
  unfold chainOk at hc
  simp only [decide_eq_true_eq] at hc
  intro k
  induction k with
  | zero => intro _; exact linkR_under (by unfold wide; omega) (by omega) E hE _ (by unfold Chain.n; omega)
  | succ k ih =>
    intro hk
    obtain ⟨g1, g2⟩ := gauge_in hg (show k < l.length by omega)
    show under c.n (oneR _ _) E ↔ _
    rw [oneR_under (gauge_ne hg (by omega)) g1 g2, ih (by omega)]
    show _ ↔ _ ∧ (yes k = true → _)
    simp [yes]

theorem linkR_net {c : Chain} (hc : chainOk c = true) (n k : Nat) : Net n 0 (linkR c k) := by
  unfold chainOk at hc
  simp only [decide_eq_true_eq] at hc
  have h0 : pw 0 = 10000000 := rfl
  refine ⟨fun x hx => ?_, fun x y hx hy => ?_, fun x y hx hy => ?_⟩
  · unfold linkR M0; rw [if_neg (by omega), if_neg (by omega), if_pos rfl]
  · unfold linkR M0 wide; repeat' split
    all_goals omega
  · unfold linkR M0 wide; repeat' split
    all_goals omega
theorem oneR_net {n : Nat} {links : Int} {M : IM} {g : Gauge} (hg : gaugeOk links g = true) (h : Net n 0 M) : Net n 0 (oneR M g) := by
  unfold gaugeOk at hg
  simp only [decide_eq_true_eq] at hg
  have h0 : pw 0 = 10000000 := rfl
  have hne : g.fr.toNat ≠ g.to.toNat := by omega
  refine ⟨fun x hx => ?_, fun x y hx hy => ?_, fun x y hx hy => ?_⟩
  · rw [oneR_at hne, if_neg (by omega), if_neg (by omega)]; exact h.diag x hx
  · rw [oneR_at hne]; have := h.lo x y hx hy; repeat' split
    all_goals omega
  · rw [oneR_at hne]; have := h.top x y hx hy; repeat' split
    all_goals omega
theorem gaugeR_net {c : Chain} {l : List Gauge} (hc : chainOk c = true) (hg : l.all (gaugeOk c.links) = true) (n : Nat) : ∀ k, k ≤ l.length → Net n 0 (gaugeR l (linkR c c.links.toNat) k) := by
  intro k
  induction k with
  | zero => intro _; exact linkR_net hc n _
  | succ k ih => intro hk; exact oneR_net (getD_ok hg (by omega)) (ih (by omega))

/-- The net and the web are the same. -/
theorem build_law {c : Chain} {l : List Gauge} (hc : chainOk c = true) (hg : l.all (gaugeOk c.links) = true) : match weaveW c l yes with
    | some M => ∃ F, buildO c l = some F ∧ ∀ x y, x < c.n → y < c.n → F x y = M x y
    | none => buildO c l = none := by
  have h1 := weave_best (p := yes) hc hg
  have h2 := fw_best (gaugeR_net hc hg c.n l.length (Nat.le_refl _))
  have h3 := fun E hE => gaugeR_under hc hg E hE l.length (Nat.le_refl _)
  unfold buildO netR
  cases hq : weaveW c l yes with
  | none =>
    rw [hq] at h1
    cases hr : fwTo c.n (gaugeR l (linkR c c.links.toNat) l.length) c.n with
    | none => rfl
    | some F =>
      rw [hr] at h2
      exact absurd ((h3 F h2.good).1 h2.sat) (h1 F h2.good)
  | some M =>
    rw [hq] at h1
    cases hr : fwTo c.n (gaugeR l (linkR c c.links.toNat) l.length) c.n with
    | none =>
      rw [hr] at h2
      exact absurd ((h3 M h1.good).2 h1.sat) (h2 M h1.good)
    | some F =>
      rw [hr] at h2
      refine ⟨F, rfl, fun x y hx hy => ?_⟩
      have e1 := h1.best F h2.good ((h3 F h2.good).1 h2.sat) x y hx hy
      have e2 := h2.best M h1.good ((h3 M h1.good).2 h1.sat) x y hx hy
      omega
end Go.Proofs.Ytdfjdkhgdmndjaa
