/- What is left suffices, and each one of it is needed; plain. -/
import Derived.Test.YtlejjfhgfajoiaaSub
namespace Go.Proofs.Ytlejjfhgfajoiaa
set_option linter.unusedVariables false
set_option linter.unusedSimpArgs false
open Go.RowKit

theorem satG_mono {c : Chain} {l : List Gauge} {p q : Nat → Bool} {E : IM} : ∀ k, (∀ j, j < k → p j = true → q j = true) → satG c l q k E → satG c l p k E := by
  intro k
  induction k with
  | zero => intro _ h; exact h
  | succ k ih =>
    intro hpq ⟨h1, h2⟩
    exact ⟨ih (fun j hj => hpq j (by omega)) h1, fun hp => h2 (hpq k (by omega) hp)⟩
theorem suf_mono {c : Chain} {l : List Gauge} {fr to : Nat} {most : Int} {apart : Bool} (hc : chainOk c = true) (hg : l.all (gaugeOk c.links) = true) (hfr : fr < c.n) (hto : to < c.n) {p q : Nat → Bool} (hpq : ∀ j, j < l.length → p j = true → q j = true) (h : sufP c l fr to most apart p = true) : sufP c l fr to most apart q = true := by
  have hp := weave_best (p := p) hc hg
  have hq := weave_best (p := q) hc hg
  unfold sufP at *
  cases hwq : weaveW c l q with
  | none => rfl
  | some Mq =>
    rw [hwq] at hq
    cases hwp : weaveW c l p with
    | none =>
      rw [hwp] at hp
      exact absurd (satG_mono _ hpq hq.sat) (hp _ hq.good)
    | some Mp =>
      rw [hwp] at hp h
      have := hp.best _ hq.good (satG_mono _ hpq hq.sat) fr to hfr hto
      unfold sufM at *
      simp only [Bool.and_eq_true, decide_eq_true_eq] at *
      exact ⟨h.1, by omega⟩
section
variable {suf : (Nat → Bool) → Bool} {n : Nat}
theorem spK_suf (hm : ∀ p q : Nat → Bool, (∀ j, j < n → p j = true → q j = true) → suf p = true → suf q = true) (h : suf yes = true) : ∀ i, i ≤ n → suf (keepP i (spK suf i)) = true := by
  intro i
  induction i with
  | zero => intro _; exact hm yes _ (fun j _ _ => by unfold keepP; simp) h
  | succ i ih =>
    intro hi
    by_cases hs : suf (keepP (i + 1) (spK suf i)) = true
    · rw [spK, if_pos hs]; exact hs
    · rw [spK, if_neg hs]
      refine hm _ _ (fun j _ hj => ?_) (ih (by omega))
      unfold keepP at *
      simp only [Bool.or_eq_true, decide_eq_true_eq, List.mem_append, List.mem_singleton] at *
      rcases hj with h1 | h1
      · exact .inl (.inl h1)
      · by_cases e : j = i
        · exact .inl (.inr e)
        · exact .inr (by omega)
theorem spK_kept : ∀ i k, k ∈ spK suf i → suf (keepP (k + 1) (spK suf k)) = false ∧ ∀ x, x ∈ spK suf i → x < k → x ∈ spK suf k := by
  intro i
  induction i with
  | zero => intro k h; cases h
  | succ i ih =>
    intro k h
    by_cases hs : suf (keepP (i + 1) (spK suf i)) = true
    · rw [spK, if_pos hs] at h ⊢
      exact ih k h
    · rw [spK, if_neg hs] at h ⊢
      rcases List.mem_append.1 h with h1 | h1
      · obtain ⟨h2, h3⟩ := ih k h1
        refine ⟨h2, fun x hx hlt => ?_⟩
        rcases List.mem_append.1 hx with hx | hx
        · exact h3 x hx hlt
        · have : x = i := by simpa using hx
          have := spK_lt i k h1
          omega
      · have : k = i := by simpa using h1
        subst this
        refine ⟨by simpa using hs, fun x hx hlt => ?_⟩
        rcases List.mem_append.1 hx with hx | hx
        · exact hx
        · have : x = k := by simpa using hx
          omega
/-- All that is left suffices; without any one of it, not. -/
theorem spK_all (hm : ∀ p q : Nat → Bool, (∀ j, j < n → p j = true → q j = true) → suf p = true → suf q = true) (h : suf yes = true) : suf (fun k => decide (k ∈ spK suf n)) = true := by
  refine hm _ _ (fun j hj hk => ?_) (spK_suf hm h n (Nat.le_refl _))
  unfold keepP at hk
  simp only [Bool.or_eq_true, decide_eq_true_eq] at hk
  rw [decide_eq_true_eq]
  rcases hk with h1 | h1
  · exact h1
  · omega
theorem spK_but (hm : ∀ p q : Nat → Bool, (∀ j, j < n → p j = true → q j = true) → suf p = true → suf q = true) {k : Nat} (hk : k ∈ spK suf n) : suf (fun x => decide (x ∈ spK suf n) && decide (x ≠ k)) = false := by
  obtain ⟨h1, h2⟩ := spK_kept n k hk
  cases hs : suf (fun x => decide (x ∈ spK suf n) && decide (x ≠ k))
  · rfl
  · rw [hm _ _ (fun j _ hj => ?_) hs] at h1
    · cases h1
    · simp only [Bool.and_eq_true, decide_eq_true_eq] at hj
      unfold keepP
      simp only [Bool.or_eq_true, decide_eq_true_eq]
      rcases Nat.lt_or_ge j k with h3 | h3
      · exact .inl (h2 j hj.1 h3)
      · right; omega
end
theorem filter_erase : ∀ (ks : List Nat) (i : Nat), ks.Nodup → i < ks.length → ks.filter (fun k => decide (k ≠ ks.getD i 0)) = ks.eraseIdx i := by
  intro ks
  induction ks with
  | nil => intro i _ h; simp at h
  | cons x ks ih =>
    intro i hd hi
    rw [List.nodup_cons] at hd
    cases i with
    | zero =>
      rw [List.getD_cons_zero, List.filter_cons_of_neg (by simp), List.eraseIdx_cons_zero, List.filter_eq_self]
      intro k hk
      simp only [decide_eq_true_eq]
      intro e; subst e; exact hd.1 hk
    | succ i =>
      have hi' : i < ks.length := by simpa using hi
      rw [List.getD_cons_succ, List.filter_cons_of_pos, List.eraseIdx_cons_succ, ih i hd.2 hi']
      simp only [decide_eq_true_eq]
      intro e
      apply hd.1
      rw [e, List.getD_eq_getElem?_getD, List.getElem?_eq_getElem hi']
      exact List.getElem_mem hi'
theorem spK_up {suf : (Nat → Bool) → Bool} : ∀ n, (spK suf n).Pairwise (· < ·) := by
  intro n
  rw [← spK_filter]
  exact List.Pairwise.filter _ List.pairwise_lt_range
theorem spK_nodup {suf : (Nat → Bool) → Bool} (n : Nat) : (spK suf n).Nodup := (spK_up n).imp fun h => Nat.ne_of_lt h
/-- The gauges with some numbers, but for one of these (below zero: none). -/
def pkL (l : List Gauge) (ks : List Nat) (but : Int) : List Gauge := if but < 0 then ks.map (gat l) else wo l ks but.toNat
def pkTo (l : List Gauge) (ks : List Nat) (but : Int) (k : Nat) : List Gauge := (((List.range k).filter fun (i : Nat) => decide ((i : Int) ≠ but)).map fun i => gat l (ks.getD i 0))
theorem pkTo_succ (l : List Gauge) (ks : List Nat) (but : Int) (k : Nat) : pkTo l ks but (k + 1) = pkTo l ks but k ++ (if (k : Int) = but then [] else [gat l (ks.getD k 0)]) := by
  unfold pkTo
  rw [List.range_succ, List.filter_append, List.map_append]
  by_cases h : (k : Int) = but <;> simp [h]
theorem pkTo_all (l : List Gauge) (ks : List Nat) (but : Int) : pkTo l ks but ks.length = pkL l ks but := by
  unfold pkTo pkL
  split
  · rename_i h
    rw [List.filter_eq_self.2 (fun a _ => by simp only [decide_eq_true_eq]; omega)]
    refine List.ext_getElem (by simp) fun i h1 h2 => ?_
    have h3 : i < ks.length := by simpa using h2
    simp [h3]
  · rename_i h
    rw [← woTo_all]
    unfold woTo
    congr 1
    refine List.filter_congr fun k _ => ?_
    exact decide_eq_decide.2 ⟨fun h1 h2 => h1 (by omega), fun h1 h2 => h1 (by omega)⟩
theorem pk_len {l : List Gauge} {ks : List Nat} {but : Int} : (pkL l ks but).length ≤ ks.length := by
  rw [← pkTo_all]
  unfold pkTo
  rw [List.length_map]
  exact Nat.le_trans (List.length_filter_le _ _) (by simp)
theorem pk_sub {suf : (Nat → Bool) → Bool} {l : List Gauge} {but : Int} (hb : but < (spK suf l.length).length) : pkL l (spK suf l.length) but = if but < 0 then subL l (fun k => decide (k ∈ spK suf l.length)) else subL l (fun x => decide (x ∈ spK suf l.length) && decide (x ≠ (spK suf l.length).getD but.toNat 0)) := by
  unfold pkL subL subTo
  split
  · rw [spK_filter]
  · unfold wo
    rw [← filter_erase _ _ (spK_nodup _) (by omega)]
    congr 1
    conv => lhs; rw [← spK_filter (suf := suf) l.length]
    rw [List.filter_filter, spK_filter]
    refine List.filter_congr fun k _ => ?_
    exact Bool.and_comm _ _
end Go.Proofs.Ytlejjfhgfajoiaa
