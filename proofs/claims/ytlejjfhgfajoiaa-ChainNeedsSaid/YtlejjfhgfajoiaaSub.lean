/- Gauges by their numbers, plain: what is taken away one after the other. -/
import Derived.Test.YtlejjfhgfajoiaaLaw2
namespace Go.Proofs.Ytlejjfhgfajoiaa
set_option linter.unusedVariables false
set_option linter.unusedSimpArgs false
open Go.RowKit

def gat (l : List Gauge) (k : Nat) : Gauge := l.getD k Gauge.zero
def subTo (l : List Gauge) (p : Nat → Bool) (k : Nat) : List Gauge := ((List.range k).filter p).map (gat l)
def subL (l : List Gauge) (p : Nat → Bool) : List Gauge := subTo l p l.length
theorem subTo_succ (l : List Gauge) (p : Nat → Bool) (k : Nat) : subTo l p (k + 1) = subTo l p k ++ (if p k then [gat l k] else []) := by
  unfold subTo
  rw [List.range_succ, List.filter_append, List.map_append]
  cases h : p k <;> simp [h]
theorem gto_last {n : Nat} {l : List Gauge} {g : Gauge} {M : IM} : gto n (l ++ [g]) yes M (l ++ [g]).length = match gto n l yes M l.length with
    | none => none
    | some M' => gOne n M' g := by
  have e : (l ++ [g]).getD l.length Gauge.zero = g := by
    rw [List.getD_eq_getElem?_getD, List.getElem?_append_right (Nat.le_refl _)]; simp
  rw [List.length_append, show [g].length = 1 from rfl]
  simp only [gto, gto_app l.length (Nat.le_refl _), e]
  cases gto n l yes M l.length <;> simp [yes]
theorem gto_sub {n : Nat} {l : List Gauge} {p : Nat → Bool} {M : IM} : ∀ k, gto n l p M k = gto n (subTo l p k) yes M (subTo l p k).length := by
  intro k
  induction k with
  | zero => rfl
  | succ k ih =>
    rw [subTo_succ]
    cases hp : p k
    · rw [if_neg (by simp), List.append_nil]
      rw [← ih]
      simp only [gto]
      cases gto n l p M k <;> simp [hp]
    · rw [if_pos rfl, gto_last, ← ih]
      simp only [gto]
      cases gto n l p M k <;> simp [hp, gat]
theorem weave_sub (c : Chain) (l : List Gauge) (p : Nat → Bool) : weaveW c l p = weaveW c (subL l p) yes := by
  unfold weaveW subL
  exact gto_sub l.length
/-- Some gauges do not agree; or (not apart) a run is at most so long. -/
def sufM (o : Option IM) (fr to : Nat) (most : Int) (apart : Bool) : Bool := match o with
  | none => true
  | some M => !apart && decide (M fr to ≤ most)
def sufP (c : Chain) (l : List Gauge) (fr to : Nat) (most : Int) (apart : Bool) (p : Nat → Bool) : Bool := sufM (weaveW c l p) fr to most apart

def keepP (i : Nat) (ks : List Nat) : Nat → Bool := fun k => decide (k ∈ ks) || decide (i ≤ k)
def spK (suf : (Nat → Bool) → Bool) : Nat → List Nat
  | 0 => []
  | i + 1 => if suf (keepP (i + 1) (spK suf i)) then spK suf i else spK suf i ++ [i]
theorem spK_lt {suf : (Nat → Bool) → Bool} : ∀ i k, k ∈ spK suf i → k < i := by
  intro i
  induction i with
  | zero => intro k h; cases h
  | succ i ih =>
    intro k h
    rw [spK] at h
    split at h
    · have := ih k h; omega
    · rcases List.mem_append.1 h with h | h
      · have := ih k h; omega
      · have : k = i := by simpa using h
        omega
theorem spK_filter {suf : (Nat → Bool) → Bool} : ∀ i, (List.range i).filter (fun k => decide (k ∈ spK suf i)) = spK suf i := by
  intro i
  induction i with
  | zero => rfl
  | succ i ih =>
    have hni : i ∉ spK suf i := fun h => by have := spK_lt i i h; omega
    rw [List.range_succ, List.filter_append]
    rw [spK]
    split
    · rw [ih]; simp [hni]
    · have e : (List.range i).filter (fun k => decide (k ∈ spK suf i ++ [i])) = (List.range i).filter (fun k => decide (k ∈ spK suf i)) := by
        refine List.filter_congr fun k hk => ?_
        have := List.mem_range.1 hk
        simp only [List.mem_append, List.mem_singleton]
        exact decide_eq_decide.2 ⟨fun h => h.elim id (fun h => by omega), .inl⟩
      rw [e, ih]
      simp
theorem spK_rest {suf : (Nat → Bool) → Bool} {i n : Nat} (hi : i < n) : (List.range n).filter (keepP (i + 1) (spK suf i)) = spK suf i ++ (List.range (n - (i + 1))).map (i + 1 + ·) := by
  have e1 : List.range n = List.range (i + 1) ++ (List.range (n - (i + 1))).map (i + 1 + ·) := by
    conv => lhs; rw [show n = (i + 1) + (n - (i + 1)) by omega, List.range_add]
  rw [e1, List.filter_append]
  congr 1
  · rw [List.range_succ, List.filter_append]
    have hni : i ∉ spK suf i := fun h => by have := spK_lt i i h; omega
    have e2 : (List.range i).filter (keepP (i + 1) (spK suf i)) = spK suf i := by
      refine Eq.trans (List.filter_congr fun k hk => ?_) (spK_filter (suf := suf) i)
      have := List.mem_range.1 hk
      unfold keepP
      rw [decide_eq_false (show ¬ i + 1 ≤ k by omega), Bool.or_false]
    rw [e2]
    unfold keepP
    simp [hni]
  · rw [List.filter_eq_self]
    intro k hk
    obtain ⟨j, _, rfl⟩ := List.mem_map.1 hk
    unfold keepP
    rw [decide_eq_true (show i + 1 ≤ i + 1 + j by omega), Bool.or_true]
/-- The numbers that are left behind the tests of those below i. -/
def leftN (suf : (Nat → Bool) → Bool) (n i : Nat) : List Nat := spK suf i ++ (List.range (n - i)).map (i + ·)
theorem leftN_at {suf : (Nat → Bool) → Bool} {n i : Nat} (hi : i < n) : leftN suf n i = spK suf i ++ i :: (List.range (n - (i + 1))).map (i + 1 + ·) := by
  unfold leftN
  rw [show n - i = (n - (i + 1)) + 1 by omega, List.range_succ_eq_map]
  simp only [List.map_cons, Nat.add_zero, List.map_map]
  congr 2
  refine List.map_congr_left fun a _ => ?_
  simp only [Function.comp]
  omega
theorem leftN_len {suf : (Nat → Bool) → Bool} {n i : Nat} : (leftN suf n i).length = (spK suf i).length + (n - i) := by
  unfold leftN; simp
theorem leftN_zero {suf : (Nat → Bool) → Bool} {n : Nat} : leftN suf n 0 = List.range n := by
  unfold leftN
  simp [spK]
theorem leftN_end {suf : (Nat → Bool) → Bool} {n : Nat} : leftN suf n n = spK suf n := by
  unfold leftN; simp
theorem leftN_lt {suf : (Nat → Bool) → Bool} {n i : Nat} (hi : i ≤ n) {k : Nat} (h : k ∈ leftN suf n i) : k < n := by
  unfold leftN at h
  rcases List.mem_append.1 h with h | h
  · have := spK_lt i k h; omega
  · obtain ⟨j, hj, rfl⟩ := List.mem_map.1 h
    have := List.mem_range.1 hj
    omega
/-- The gauges of a list of numbers, without one of these. -/
def wo (l : List Gauge) (left : List Nat) (one : Nat) : List Gauge := (left.eraseIdx one).map (gat l)
def woTo (l : List Gauge) (left : List Nat) (one k : Nat) : List Gauge := (((List.range k).filter fun i => decide (i ≠ one)).map fun i => gat l (left.getD i 0))
theorem woTo_succ (l : List Gauge) (left : List Nat) (one k : Nat) : woTo l left one (k + 1) = woTo l left one k ++ (if k = one then [] else [gat l (left.getD k 0)]) := by
  unfold woTo
  rw [List.range_succ, List.filter_append, List.map_append]
  by_cases h : k = one <;> simp [h]
theorem woTo_all (l : List Gauge) : ∀ (left : List Nat) (one : Nat), woTo l left one left.length = wo l left one := by
  intro left
  induction left with
  | nil => intro one; rfl
  | cons x left ih =>
    intro one
    unfold woTo wo
    rw [List.length_cons, List.range_succ_eq_map]
    cases one with
    | zero =>
      simp only [List.eraseIdx_cons_zero]
      rw [List.filter_cons_of_neg (by simp)]
      rw [List.filter_eq_self.2 (by intro a ha; obtain ⟨b, _, rfl⟩ := List.mem_map.1 ha; simp)]
      rw [List.map_map]
      refine List.ext_getElem (by simp) fun i h1 h2 => ?_
      have h3 : i < left.length := by simpa using h2
      simp [h3]
    | succ one =>
      simp only [List.eraseIdx_cons_succ, List.map_cons]
      rw [List.filter_cons_of_pos (by simp)]
      simp only [List.map_cons, List.getD_cons_zero]
      congr 1
      have := ih one
      unfold woTo wo at this
      rw [← this, List.filter_map, List.map_map]
      congr 1
      refine List.filter_congr fun k _ => ?_
      simp
theorem erase_mid {α : Type} (a : List α) (x : α) (b : List α) : (a ++ x :: b).eraseIdx a.length = a ++ b := by
  rw [List.eraseIdx_append_of_length_le (Nat.le_refl _)]; simp
/-- The gauges that are left without number i, and those that the program wants then. -/
theorem wo_left {suf : (Nat → Bool) → Bool} {l : List Gauge} {i : Nat} (hi : i < l.length) : wo l (leftN suf l.length i) (spK suf i).length = subL l (keepP (i + 1) (spK suf i)) := by
  unfold wo subL subTo
  rw [leftN_at hi, erase_mid, spK_rest hi]
theorem leftN_drop {suf : (Nat → Bool) → Bool} {n i : Nat} (hi : i < n) (h : suf (keepP (i + 1) (spK suf i)) = true) : (leftN suf n i).take (spK suf i).length ++ (leftN suf n i).drop ((spK suf i).length + 1) = leftN suf n (i + 1) := by
  have e : spK suf (i + 1) = spK suf i := by rw [spK, if_pos h]
  rw [leftN_at hi]
  conv => rhs; unfold leftN; rw [e]
  simp
theorem leftN_next {suf : (Nat → Bool) → Bool} {n i : Nat} (hi : i < n) (h : suf (keepP (i + 1) (spK suf i)) = false) : leftN suf n i = leftN suf n (i + 1) := by
  have e : spK suf (i + 1) = spK suf i ++ [i] := by rw [spK, if_neg (by rw [h]; simp)]
  rw [leftN_at hi]
  conv => rhs; unfold leftN; rw [e]
  simp
theorem sub_ok {l : List Gauge} {q : Gauge → Bool} {p : Nat → Bool} (h : l.all q = true) : (subL l p).all q = true := by
  rw [List.all_eq_true] at *
  intro g hg
  unfold subL subTo at hg
  obtain ⟨k, hk, rfl⟩ := List.mem_map.1 hg
  have hk2 := List.mem_range.1 (List.mem_filter.1 hk).1
  unfold gat
  rw [List.getD_eq_getElem?_getD, List.getElem?_eq_getElem hk2]
  exact h _ (List.getElem_mem _)
theorem sub_len {l : List Gauge} {p : Nat → Bool} : (subL l p).length ≤ l.length := by
  unfold subL subTo
  rw [List.length_map]
  exact Nat.le_trans (List.length_filter_le _ _) (by simp)
end Go.Proofs.Ytlejjfhgfajoiaa
