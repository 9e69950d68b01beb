/- Possible lengths, plain: they lie in the web; those of a witness are possible. -/
import Derived.Test.YtdepakimbagonaaF1
namespace Go.Proofs.Ytdepakimbagonaa
set_option linter.unusedVariables false
set_option linter.unusedSimpArgs false
open Go.RowKit

theorem checkE_ok' {c : Chain} {l : List Gauge} (h : checkE c l = 0) : chainOk c = true ∧ l.length ≤ 40 ∧ l.all (gaugeOk c.links) = true := by
  unfold checkE at h
  split at h
  · split at h
    · split at h
      · exact ⟨by assumption, by assumption, by assumption⟩
      · cases h
    · cases h
  · cases h
def sumR (f : Nat → Int) (a : Nat) : Nat → Int
  | 0 => 0
  | d + 1 => sumR f a d + f (a + d)
def posP (f : Nat → Int) (k : Nat) : Int := sumR f 0 k
theorem posP_succ (f : Nat → Int) (k : Nat) : posP f (k + 1) = posP f k + f k := by
  show sumR f 0 k + f (0 + k) = _
  rw [Nat.zero_add]; rfl
theorem sumR_split (f : Nat → Int) (a : Nat) : ∀ d, sumR f a d = posP f (a + d) - posP f a := by
  intro d
  induction d with
  | zero => simp [sumR]
  | succ d ih => rw [sumR, ih, ← Nat.add_assoc, posP_succ]; omega
theorem sumR_bd {f : Nat → Int} {n : Nat} (h : ∀ k, k < n → 0 ≤ f k ∧ f k ≤ 100000) (a : Nat) : ∀ d, a + d ≤ n → 0 ≤ sumR f a d ∧ sumR f a d ≤ (d : Int) * 100000 := by
  intro d
  induction d with
  | zero => intro _; simp [sumR]
  | succ d ih =>
    intro hd
    have h1 := ih (by omega)
    have h2 := h (a + d) (by omega)
    rw [sumR]
    omega
def runB (f : Nat → Int) (g : Gauge) : Bool := decide (g.lo ≤ sumR f g.fr.toNat (g.to.toNat - g.fr.toNat) ∧ sumR f g.fr.toNat (g.to.toNat - g.fr.toNat) ≤ g.hi)
def posB (c : Chain) (l : List Gauge) (n : Nat) (f : Nat → Int) : Bool := (decide ((n : Int) = c.links) && (List.range n).all fun k => decide (c.pitch ≤ f k ∧ f k ≤ c.limit)) && l.all (runB f)
structure Pos (c : Chain) (l : List Gauge) (f : Nat → Int) : Prop where
  links : ∀ k, k < c.links.toNat → c.pitch ≤ f k ∧ f k ≤ c.limit
  runs : l.all (runB f) = true
theorem posB_iff {c : Chain} {l : List Gauge} {n : Nat} {f : Nat → Int} : posB c l n f = true ↔ (n : Int) = c.links ∧ Pos c l f := by
  unfold posB
  simp only [Bool.and_eq_true, decide_eq_true_eq, List.all_eq_true]
  constructor
  · rintro ⟨⟨h1, h2⟩, h3⟩
    refine ⟨h1, fun k hk => h2 k (List.mem_range.2 (by omega)), List.all_eq_true.2 h3⟩
  · rintro ⟨h1, h2, h3⟩
    exact ⟨⟨h1, fun k hk => h2 k (by have := List.mem_range.1 hk; omega)⟩, List.all_eq_true.1 h3⟩
def posE (f : Nat → Int) : IM := fun x y => posP f y - posP f x
theorem posP_bd {f : Nat → Int} {c : Chain} {l : List Gauge} (hc : chainOk c = true) (h : Pos c l f) : ∀ k, k ≤ c.links.toNat → 0 ≤ posP f k ∧ posP f k ≤ (k : Int) * 100000 := by
  unfold chainOk at hc
  simp only [decide_eq_true_eq] at hc
  intro k
  induction k with
  | zero => intro _; simp [posP, sumR]
  | succ k ih =>
    intro hk
    have h1 := ih (by omega)
    have h2 := h.links k (by omega)
    rw [posP_succ]
    omega
theorem posE_good {f : Nat → Int} {c : Chain} {l : List Gauge} (hc : chainOk c = true) (h : Pos c l f) : Good c.n (posE f) := by
  have hb := posP_bd hc h
  unfold chainOk at hc
  simp only [decide_eq_true_eq] at hc
  refine ⟨fun x _ => by unfold posE; omega, fun x y z _ _ _ => by unfold posE; omega, fun x y hx hy => ?_⟩
  unfold Chain.n at hx hy
  have h1 := hb x (by omega)
  have h2 := hb y (by omega)
  unfold posE wide
  omega
theorem posE_satL {f : Nat → Int} {c : Chain} : ∀ k, (∀ j, j < k → c.pitch ≤ f j ∧ f j ≤ c.limit) → satL c k (posE f) := by
  intro k
  induction k with
  | zero => intro _; trivial
  | succ k ih =>
    intro h
    have h1 := h k (by omega)
    refine ⟨ih fun j hj => h j (by omega), ?_, ?_⟩
    · unfold posE; rw [posP_succ]; omega
    · unfold posE; rw [posP_succ]; omega
theorem posE_satG {f : Nat → Int} {c : Chain} {l : List Gauge} (hg : l.all (gaugeOk c.links) = true) (h : Pos c l f) : ∀ k, k ≤ l.length → satG c l yes k (posE f) := by
  intro k
  induction k with
  | zero => intro _; exact posE_satL _ h.links
  | succ k ih =>
    intro hk
    refine ⟨ih (by omega), fun _ => ?_⟩
    have h1 : runB f (l.getD k Gauge.zero) = true := by
      rw [List.getD_eq_getElem?_getD, List.getElem?_eq_getElem (by omega)]
      exact List.all_eq_true.1 h.runs _ (List.getElem_mem _)
    have h2 := getD_ok hg (show k < l.length by omega)
    unfold gaugeOk at h2
    simp only [decide_eq_true_eq] at h2
    unfold runB at h1
    simp only [decide_eq_true_eq] at h1
    rw [sumR_split, show (l.getD k Gauge.zero).fr.toNat + ((l.getD k Gauge.zero).to.toNat - (l.getD k Gauge.zero).fr.toNat) = (l.getD k Gauge.zero).to.toNat by omega] at h1
    unfold inSpan posE
    omega
/-- Possible lengths lie in the web. -/
theorem pos_best {c : Chain} {l : List Gauge} {f : Nat → Int} (hk : checkE c l = 0) (h : Pos c l f) : ∃ M, weaveW c l yes = some M ∧ ∀ x y, x < c.n → y < c.n → posP f y - posP f x ≤ M x y := by
  obtain ⟨h1, _, h3⟩ := checkE_ok' hk
  have hb := weave_best (p := yes) h1 h3
  have hg := posE_good h1 h
  have hs := posE_satG h3 h l.length (Nat.le_refl _)
  cases hw : weaveW c l yes with
  | none => rw [hw] at hb; exact absurd hs (hb _ hg)
  | some M => rw [hw] at hb; exact ⟨M, rfl, fun x y hx hy => hb.best _ hg hs x y hx hy⟩

theorem satG_mem {c : Chain} {l l' : List Gauge} {M : IM} {n : Nat} : satG c (l ++ l') yes (l ++ l').length M → ∀ j, j < l.length → inSpan (l.getD j Gauge.zero).fr.toNat (l.getD j Gauge.zero).to.toNat (l.getD j Gauge.zero).lo (l.getD j Gauge.zero).hi M := by
  intro h j hj
  have := satG_at _ h j (by simp; omega) rfl
  rw [List.getD_eq_getElem?_getD, List.getElem?_append_left hj, ← List.getD_eq_getElem?_getD] at this
  exact this
theorem pinG_at {l : List Gauge} {f : Nat → Int} {m k : Nat} (hk : k < m) : (moreK l f m).getD (l.length + k) Gauge.zero = pinG k (f k) := by
  unfold moreK
  rw [List.getD_eq_getElem?_getD, List.getElem?_append_right (by omega), Nat.add_sub_cancel_left, List.getElem?_map, List.getElem?_range hk]
  rfl
theorem pinned {n m : Nat} {M : IM} {f : Nat → Int} (hG : Good n M) (hm : m < n) (h : ∀ k, k < m → M k (k + 1) ≤ f k ∧ M (k + 1) k ≤ -(f k)) : ∀ d x, x + d ≤ m → M x (x + d) ≤ sumR f x d ∧ M (x + d) x ≤ -(sumR f x d) := by
  intro d
  induction d with
  | zero => intro x hx; have := hG.diag x (by omega); simp only [Nat.add_zero, sumR]; omega
  | succ d ih =>
    intro x hx
    obtain ⟨h1, h2⟩ := ih x (by omega)
    obtain ⟨h3, h4⟩ := h (x + d) (by omega)
    have t1 := hG.tri x (x + d) (x + d + 1) (by omega) (by omega) (by omega)
    have t2 := hG.tri (x + d + 1) (x + d) x (by omega) (by omega) (by omega)
    rw [sumR, ← Nat.add_assoc]
    omega
/-- The lengths of a witness are possible, and the run is as long as was asked. -/
theorem wit_pos {c : Chain} {l : List Gauge} {M : IM} (hk : checkE c l = 0) (h : weaveW c l yes = some M) {a b : Nat} {len : Int} (hab : a ≤ b) (hb : b ≤ c.links.toNat) (h1 : -(M b a) ≤ len) (h2 : len ≤ M a b) :
    Pos c l (witN (witS M a b len)) ∧ sumR (witN (witS M a b len)) a (b - a) = len := by
  obtain ⟨hc, _, hg⟩ := checkE_ok' hk
  have hw := wit_more hc hg h hab hb h1 h2 c.links.toNat (Nat.le_refl _)
  have hB := web_best hc hw.1 hw.2
  have hG := hB.good
  have hn : c.links.toNat < c.n := by unfold Chain.n; omega
  have hpin : ∀ k, k < c.links.toNat → witM (witS M a b len) c.links.toNat k (k + 1) ≤ witN (witS M a b len) k ∧ witM (witS M a b len) c.links.toNat (k + 1) k ≤ -(witN (witS M a b len) k) := by
    intro k hk'
    have := satG_at _ hB.sat ((more0 l a b len).length + k) (by unfold moreK; rw [List.length_append, List.length_map, List.length_range]; omega) rfl
    rw [pinG_at hk'] at this
    exact this
  have hrun := pinned hG hn hpin
  have hexact : ∀ d x, x + d ≤ c.links.toNat → witM (witS M a b len) c.links.toNat x (x + d) = sumR (witN (witS M a b len)) x d ∧ witM (witS M a b len) c.links.toNat (x + d) x = -(sumR (witN (witS M a b len)) x d) := by
    intro d x hx
    have e := hrun d x hx
    have t := hG.tri x (x + d) x (by omega) (by omega) (by omega)
    have dg := hG.diag x (by omega)
    omega
  have hs := satG_links _ hB.sat
  have hlink : ∀ k, k < c.links.toNat → c.pitch ≤ witN (witS M a b len) k ∧ witN (witS M a b len) k ≤ c.limit := by
    intro k hk'
    obtain ⟨s1, s2⟩ := satL_at _ hs k hk'
    have e := hexact 1 k (by omega)
    simp only [sumR, Nat.add_zero] at e
    omega
  have hmem : ∀ (j : Nat), j < (more0 l a b len).length → runB (witN (witS M a b len)) ((more0 l a b len).getD j Gauge.zero) = true := by
    intro j hj
    have hok : (more0 l a b len).all (gaugeOk c.links) = true := by
      have := hw.1
      unfold moreK at this
      rw [List.all_append, Bool.and_eq_true] at this
      exact this.1
    have s := satG_at _ hB.sat j (by unfold moreK; rw [List.length_append]; omega) rfl
    have ge : (moreK (more0 l a b len) (witN (witS M a b len)) c.links.toNat).getD j Gauge.zero = (more0 l a b len).getD j Gauge.zero := by
      unfold moreK
      rw [List.getD_eq_getElem?_getD, List.getElem?_append_left hj, ← List.getD_eq_getElem?_getD]
    rw [ge] at s
    have g := getD_ok hok hj
    unfold gaugeOk at g
    simp only [decide_eq_true_eq] at g
    have e := hexact (((more0 l a b len).getD j Gauge.zero).to.toNat - ((more0 l a b len).getD j Gauge.zero).fr.toNat) ((more0 l a b len).getD j Gauge.zero).fr.toNat (by omega)
    rw [show ((more0 l a b len).getD j Gauge.zero).fr.toNat + (((more0 l a b len).getD j Gauge.zero).to.toNat - ((more0 l a b len).getD j Gauge.zero).fr.toNat) = ((more0 l a b len).getD j Gauge.zero).to.toNat by omega] at e
    obtain ⟨s1, s2⟩ := s
    unfold runB
    simp only [decide_eq_true_eq]
    omega
  refine ⟨⟨hlink, ?_⟩, ?_⟩
  · rw [List.all_eq_true]
    intro g hgm
    obtain ⟨j, hj, rfl⟩ := List.getElem_of_mem hgm
    have hle : l.length ≤ (more0 l a b len).length := by unfold more0; split <;> simp
    have := hmem j (by omega)
    have e : (more0 l a b len).getD j Gauge.zero = l[j] := by
      unfold more0
      split
      · rw [List.getD_eq_getElem?_getD, List.getElem?_append_left hj, List.getElem?_eq_getElem hj]; rfl
      · rw [List.getD_eq_getElem?_getD, List.getElem?_eq_getElem hj]; rfl
    rw [e] at this
    exact this
  · by_cases hlt : a < b
    · have e : (more0 l a b len).getD l.length Gauge.zero = ⟨a, b, len, len⟩ := by
        unfold more0
        rw [if_pos hlt, List.getD_eq_getElem?_getD, List.getElem?_append_right (Nat.le_refl _)]; simp
      have := hmem l.length (by unfold more0; rw [if_pos hlt]; simp)
      rw [e] at this
      unfold runB at this
      simp only [decide_eq_true_eq] at this
      (try dsimp only at this)
      rw [Int.toNat_natCast, Int.toNat_natCast] at this
      omega
    · have e : a = b := by omega
      subst e
      have hB0 := web_best hc hg h
      have d0 := hB0.good.diag a (by unfold Chain.n; omega)
      rw [Nat.sub_self]
      simp only [sumR]
      omega
end Go.Proofs.Ytdepakimbagonaa
