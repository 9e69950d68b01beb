/- Layer 2, plain: what the spans of a web are, and the gauges that a witness adds. -/
import Derived.Test.YtdfjdkhgdmndjaaRef
namespace Go.Proofs.Ytdfjdkhgdmndjaa
set_option linter.unusedVariables false
set_option linter.unusedSimpArgs false

theorem gto_app {n : Nat} {l : List Gauge} {g : Gauge} {p : Nat → Bool} {M : IM} : ∀ k, k ≤ l.length → gto n (l ++ [g]) p M k = gto n l p M k := by
  intro k
  induction k with
  | zero => intro _; rfl
  | succ k ih =>
    intro hk
    have e : (l ++ [g]).getD k Gauge.zero = l.getD k Gauge.zero := by
      rw [List.getD_eq_getElem?_getD, List.getD_eq_getElem?_getD, List.getElem?_append_left (by omega)]
    simp only [gto, ih (by omega), e]

theorem weave_app {c : Chain} {l : List Gauge} {g : Gauge} {M : IM} (h : weaveW c l yes = some M) : weaveW c (l ++ [g]) yes = gOne c.n M g := by
  unfold weaveW at *
  have e : (l ++ [g]).getD l.length Gauge.zero = g := by
    rw [List.getD_eq_getElem?_getD, List.getElem?_append_right (Nat.le_refl _)]; simp
  rw [List.length_append, show [g].length = 1 from rfl]
  simp only [gto, gto_app l.length (Nat.le_refl _), h, e]
  simp [yes]

theorem satL_at {c : Chain} {M : IM} : ∀ k, satL c k M → ∀ j, j < k → inSpan j (j + 1) c.pitch c.limit M := by
  intro k
  induction k with
  | zero => intro _ j hj; omega
  | succ k ih =>
    intro ⟨h1, h2⟩ j hj
    by_cases e : j = k
    · subst e; exact h2
    · exact ih h1 j (by omega)
theorem satG_links {c : Chain} {l : List Gauge} {p : Nat → Bool} {M : IM} : ∀ k, satG c l p k M → satL c c.links.toNat M := by
  intro k
  induction k with
  | zero => intro h; exact h
  | succ k ih => intro ⟨h1, _⟩; exact ih h1
theorem satG_at {c : Chain} {l : List Gauge} {p : Nat → Bool} {M : IM} : ∀ k, satG c l p k M → ∀ j, j < k → p j = true → inSpan (l.getD j Gauge.zero).fr.toNat (l.getD j Gauge.zero).to.toNat (l.getD j Gauge.zero).lo (l.getD j Gauge.zero).hi M := by
  intro k
  induction k with
  | zero => intro _ j hj; omega
  | succ k ih =>
    intro ⟨h1, h2⟩ j hj
    by_cases e : j = k
    · subst e; exact h2
    · exact ih h1 j (by omega)

theorem web_best {c : Chain} {l : List Gauge} {p : Nat → Bool} {M : IM} (hc : chainOk c = true) (hg : l.all (gaugeOk c.links) = true) (h : weaveW c l p = some M) : Best c.n (satG c l p l.length) M := by
  have := weave_best (p := p) hc hg
  rw [h] at this
  exact this

/-- A run's length, from its links alone. -/
theorem run_bd {c : Chain} {n m : Nat} {M : IM} (hG : Good n M) (hm : m < n) (hs : satL c m M) : ∀ d i, i + d ≤ m → M i (i + d) ≤ d * c.limit ∧ M (i + d) i ≤ -(d * c.pitch) := by
  intro d
  induction d with
  | zero =>
    intro i hi
    have := hG.diag i (by omega)
    simp only [Nat.add_zero]
    omega
  | succ d ih =>
    intro i hi
    obtain ⟨h1, h2⟩ := ih i (by omega)
    obtain ⟨h3, h4⟩ := satL_at m hs (i + d) (by omega)
    have t1 := hG.tri i (i + d) (i + d + 1) (by omega) (by omega) (by omega)
    have t2 := hG.tri (i + d + 1) (i + d) i (by omega) (by omega) (by omega)
    rw [← Nat.add_assoc]
    have e1 : ((d + 1 : Nat) : Int) * c.limit = d * c.limit + c.limit := by rw [Int.natCast_add, Int.add_mul]; simp
    have e2 : ((d + 1 : Nat) : Int) * c.pitch = d * c.pitch + c.pitch := by rw [Int.natCast_add, Int.add_mul]; simp
    rw [e1, e2]
    omega

theorem tight_le (M : IM) (i j : Nat) (lo hi : Int) (x y : Nat) : tightM M i j lo hi x y ≤ M x y := by
  unfold tightM
  have h1 := arc_le (arc M i j hi) j i (-lo) x y
  have h2 := arc_le M i j hi x y
  omega
theorem witS_le (M : IM) (a b : Nat) (len : Int) (x y : Nat) : witS M a b len x y ≤ M x y := by
  unfold witS
  split
  · exact tight_le _ _ _ _ _ _ _
  · exact Int.le_refl _
theorem witM_le (M : IM) (k x y : Nat) : witM M k x y ≤ M x y := by
  induction k with
  | zero => exact Int.le_refl _
  | succ k ih => have := tight_le (witM M k) k (k + 1) (-(witM M k (k + 1) k)) (-(witM M k (k + 1) k)) x y; unfold witM; omega

def pinG (j : Nat) (v : Int) : Gauge := ⟨j, (j : Int) + 1, v, v⟩
def more0 (l : List Gauge) (a b : Nat) (len : Int) : List Gauge := if a < b then l ++ [⟨a, b, len, len⟩] else l
def moreK (l : List Gauge) (f : Nat → Int) (k : Nat) : List Gauge := l ++ (List.range k).map fun j => pinG j (f j)
theorem moreK_succ (l : List Gauge) (f : Nat → Int) (k : Nat) : moreK l f (k + 1) = moreK l f k ++ [pinG k (f k)] := by
  unfold moreK
  rw [List.range_succ, List.map_append, List.append_assoc]
  rfl

theorem gOne_pin {n : Nat} {M : IM} {g : Gauge} {v : Int} (hG : Good n M) (h1 : g.lo = v) (h2 : g.hi = v) (hf : g.fr.toNat < n) (ht : g.to.toNat < n) (h3 : -(M g.to.toNat g.fr.toNat) ≤ v) (h4 : v ≤ M g.fr.toNat g.to.toNat) :
    gOne n M g = some (tightM M g.fr.toNat g.to.toNat v v) := by
  unfold gOne
  rw [h1, h2]
  have hp := (tight_pin hG hf ht h3 h4).1
  rw [if_pos]
  rw [diagB_iff]
  intro k hk
  have := hp.diag k hk
  omega

theorem wit_more {c : Chain} {l : List Gauge} {M : IM} (hc : chainOk c = true) (hg : l.all (gaugeOk c.links) = true) (h : weaveW c l yes = some M) {a b : Nat} {len : Int} (hab : a ≤ b) (hb : b ≤ c.links.toNat) (h1 : -(M b a) ≤ len) (h2 : len ≤ M a b) :
    ∀ k, k ≤ c.links.toNat → (moreK (more0 l a b len) (witN (witS M a b len)) k).all (gaugeOk c.links) = true ∧ weaveW c (moreK (more0 l a b len) (witN (witS M a b len)) k) yes = some (witM (witS M a b len) k) := by
  have hB := web_best hc hg h
  have hG := hB.good
  have hs := satG_links _ hB.sat
  have hc' := hc
  unfold chainOk at hc'
  simp only [decide_eq_true_eq] at hc'
  have hn : c.n = c.links.toNat + 1 := rfl
  have hS := witS_good (len := len) hG (show a < c.n by omega) (show b < c.n by omega) h1 h2
  intro k
  induction k with
  | zero =>
    intro _
    have e : moreK (more0 l a b len) (witN (witS M a b len)) 0 = more0 l a b len := by unfold moreK; simp
    rw [e]
    unfold more0 witM witS
    by_cases hlt : a < b
    · rw [if_pos hlt, if_pos hlt]
      have hr := run_bd hG (show c.links.toNat < c.n by omega) hs (b - a) a (by omega)
      rw [show a + (b - a) = b by omega] at hr
      have e1 : ((b - a : Nat) : Int) * c.limit ≤ 24 * 100000 := Int.mul_le_mul (by omega) (by omega) (by omega) (by omega)
      have e2 := Int.mul_nonneg (show (0 : Int) ≤ ((b - a : Nat) : Int) by omega) (show 0 ≤ c.pitch by omega)
      constructor
      · rw [List.all_append, hg]
        simp only [List.all_cons, List.all_nil, Bool.true_and, Bool.and_true]
        unfold gaugeOk
        simp only [decide_eq_true_eq]
        omega
      · rw [weave_app h]
        exact gOne_pin (g := ⟨a, b, len, len⟩) hG rfl rfl (show a < c.n by omega) (show b < c.n by omega) h1 h2
    · rw [if_neg hlt, if_neg hlt]
      exact ⟨hg, h⟩
  | succ k ih =>
    intro hk
    obtain ⟨g1, g2⟩ := ih (by omega)
    have hk' := witM_good hS k (by omega)
    have t1 := hk'.tri k (k + 1) k (by omega) (by omega) (by omega)
    have t2 := hk'.diag k (by omega)
    have b1 := witM_le (witS M a b len) k (k + 1) k
    have b2 := witM_le (witS M a b len) k k (k + 1)
    have b3 := witS_le M a b len (k + 1) k
    have b4 := witS_le M a b len k (k + 1)
    obtain ⟨s1, s2⟩ := satL_at _ hs k (by omega)
    have s3 : witN (witS M a b len) k = -(witM (witS M a b len) k (k + 1) k) := rfl
    have s4 : 0 ≤ witN (witS M a b len) k ∧ witN (witS M a b len) k ≤ c.limit := by
      rw [s3]
      have := hk'.tri (k + 1) k (k + 1) (by omega) (by omega) (by omega)
      have := hk'.diag (k + 1) (by omega)
      omega
    rw [moreK_succ]
    constructor
    · rw [List.all_append, g1]
      simp only [List.all_cons, List.all_nil, Bool.true_and, Bool.and_true]
      unfold gaugeOk pinG
      simp only [decide_eq_true_eq]
      omega
    · rw [weave_app g2]
      have h5 := gOne_pin (g := pinG k (witN (witS M a b len) k)) (v := witN (witS M a b len) k) hk' rfl rfl (show k < c.n by omega) (show ((k : Int) + 1).toNat < c.n by omega)
        (show -(witM (witS M a b len) k (k + 1) k) ≤ _ by omega) (show _ ≤ witM (witS M a b len) k k (k + 1) by omega)
      rw [h5]
      rfl
end Go.Proofs.Ytdfjdkhgdmndjaa
