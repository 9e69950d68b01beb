/- Chapter 8: how the program counts a plan. -/
import Derived.Test.YtlmddkekeoebcaaPlf
import Derived.Test.YtlmddkekeoebcaaMk
namespace Go.Proofs.Ytlmddkekeoebcaa
set_option linter.unusedVariables false
set_option linter.unusedSimpArgs false
open Go.RowKit

/-! ## headings by passage and place -/
def hgetO (hs : List Hd) : Nat → Int × Int → Option Hd
  | 0, _ => none
  | n + 1, k => if k = ((hs.getD n Hd.zero).pas, (hs.getD n Hd.zero).fr) then some (hs.getD n Hd.zero) else hgetO hs n k
def wayP (hs : List Hd) (n : Nat) (h : Int × Int → Option Value) : Prop := ∀ k, h k = (hgetO hs n k).map fun x => .agg (Hd.cells x).toArray
theorem wayP_none {hs : List Hd} : wayP hs 0 (fun _ => none) := fun _ => rfl
theorem wayP_step {hs : List Hd} {n : Nat} {v : Value} (hv : v = .agg (Hd.cells (hs.getD n Hd.zero)).toArray) : ∀ h, wayP hs n h → wayP hs (n + 1) (fun k' => if k' = ((hs.getD n Hd.zero).pas, (hs.getD n Hd.zero).fr) then some v else h k') := fun h hh k => by
  subst hv
  dsimp only
  rw [hgetO]
  by_cases e : k = ((hs.getD n Hd.zero).pas, (hs.getD n Hd.zero).fr)
  · rw [if_pos e, if_pos e]; rfl
  · rw [if_neg e, if_neg e]; exact hh k
theorem hget_some {hs : List Hd} {k : Int × Int} {x : Hd} : ∀ {n}, hgetO hs n k = some x → ∃ i, i < n ∧ hs.getD i Hd.zero = x ∧ k = (x.pas, x.fr) := by
  intro n
  induction n with
  | zero => intro h; cases h
  | succ n ih =>
    intro h
    rw [hgetO] at h
    split at h
    · rename_i e
      injection h with h
      exact ⟨n, by omega, h, by rw [← h]; exact e⟩
    · obtain ⟨i, h1, h2⟩ := ih h
      exact ⟨i, by omega, h2⟩
theorem hget_none {hs : List Hd} {k : Int × Int} : ∀ {n}, hgetO hs n k = none → ∀ i, i < n → k ≠ ((hs.getD i Hd.zero).pas, (hs.getD i Hd.zero).fr) := by
  intro n
  induction n with
  | zero => intro _ i hi; omega
  | succ n ih =>
    intro h i hi
    rw [hgetO] at h
    split at h
    · cases h
    · rename_i e
      by_cases e2 : i = n
      · subst e2; exact e
      · exact ih h i (by omega)
section
variable {P T : Nat} {ps : List Psg} {xs : List Int} {out : Int} {pe : List Int} {l : List Mv} {m : Mv}
theorem head_ex (V : StV P ps xs) (ho : 0 ≤ out) (h1 : 0 ≤ m.pas ∧ m.pas < ps.length) (h2 : 0 ≤ mvG ps out m) (h3 : hasI xs m.fr = false) : ∃ i, i < (hds out xs ps).length ∧ (m.pas, m.fr) = (((hds out xs ps).getD i Hd.zero).pas, ((hds out xs ps).getD i Hd.zero).fr) := by
  obtain ⟨q, hq⟩ := Int.eq_ofNat_of_zero_le h1.1
  have hql : q < ps.length := by omega
  have hp := psgOk_iff.1 (V.pas q hql)
  have hP : mvP ps m = ps.getD q Psg.zero := by unfold mvP; rw [hq]; rfl
  have bt : bitI out (ps.getD q Psg.zero).mach = 0 ∨ bitI out (ps.getD q Psg.zero).mach = 1 := by unfold bitI; omega
  unfold mvG at h2
  rw [hP] at h2
  have h4 : ¬ (ps.getD q Psg.zero).kind = 4 := fun h => by unfold goneI at h2; rw [if_pos (.inr h)] at h2; omega
  have ho' : ¬ othr (ps.getD q Psg.zero) m.fr < 0 := fun h => by unfold goneI at h2; rw [if_pos (.inl h)] at h2; omega
  by_cases ha : (ps.getD q Psg.zero).a = m.fr
  · obtain ⟨g1, g2⟩ := hds_first (out := out) (xs := xs) hql h4 (by rw [ha]; exact h3)
    exact ⟨_, g2, by rw [g1, hq, ← ha]⟩
  · by_cases hb : (ps.getD q Psg.zero).b = m.fr
    · have hbk : hdBack out (ps.getD q Psg.zero) = true := by
        refine (hdBack_t ?_).symm
        by_cases hk : (ps.getD q Psg.zero).kind = 3
        · right
          intro h0
          unfold goneI at h2
          have hb0 : bitI out (ps.getD q Psg.zero).mach = 0 := h0
          rw [if_neg (by intro h; rcases h with h | h; exact ho' h; exact h4 h), if_neg (fun h => by have := h.2; omega), if_pos ⟨hk, hb.symm⟩] at h2
          omega
        · exact .inl hk
      obtain ⟨g1, g2⟩ := hds_second (out := out) (xs := xs) hql h4 (by rw [hbk, hb, h3]; rfl)
      exact ⟨_, g2, by rw [g1, hq, ← hb]⟩
    · exfalso; apply ho'; unfold othr; rw [if_neg ha, if_neg hb]; omega
theorem way_none (V : StV P ps xs) (ho : 0 ≤ out) (h : hgetO (hds out xs ps) (hds out xs ps).length (m.pas, m.fr) = none) : mvOk ps xs out m = false := by
  cases hb : mvOk ps xs out m with
  | false => rfl
  | true =>
    obtain ⟨h1, h2, h3⟩ := mvOk_iff.1 hb
    obtain ⟨i, hi, e⟩ := head_ex V ho h1.1 h2 h3
    exact absurd e (hget_none h i hi)
structure WayF (P : Nat) (ps : List Psg) (xs : List Int) (out : Int) (m : Mv) (x : Hd) : Prop where
  pas : 0 ≤ m.pas ∧ m.pas < ps.length
  g : mvG ps out m = x.ticks
  o : mvO ps m = x.to
  ex : hasI xs m.fr = false
  wide : x.wide = (mvP ps m).wide
  rng : HdOk P x
  fr : x.fr = m.fr
theorem way_some (V : StV P ps xs) (ho : 0 ≤ out) {x : Hd} (h : hgetO (hds out xs ps) (hds out xs ps).length (m.pas, m.fr) = some x) : WayF P ps xs out m x := by
  obtain ⟨i, hi, rfl, e⟩ := hget_some h
  have e1 := congrArg Prod.fst e
  have e2 := congrArg Prod.snd e
  dsimp only at e1 e2
  have F := hds_facts V ho ((hds out xs ps).getD i Hd.zero) (by rw [List.getD_eq_getElem?_getD, List.getElem?_eq_getElem hi]; exact List.getElem_mem _)
  refine ⟨by rw [e1]; exact F.pas, ?_, ?_, by rw [e2]; exact F.ex, ?_, hds_ok V i hi, e2.symm⟩
  · unfold mvG mvP; rw [e1, e2]; exact F.gone
  · unfold mvO mvP; rw [e1, e2]; exact F.to
  · unfold mvP; rw [e1]; exact F.wide
theorem way_ok {x : Hd} (F : WayF P ps xs out m x) (h1 : 0 ≤ m.at_ ∧ m.at_ ≤ 60) (h2 : 1 ≤ m.many ∧ m.many ≤ 1000) : mvOk ps xs out m = true := mvOk_iff.2 ⟨⟨F.pas, h1, h2⟩, by rw [F.g]; have := F.rng; unfold HdOk at this; omega, F.ex⟩

/-! ## what went and what came -/
def wnM (m : Mv) (t p : Nat) : Int := if m.at_ = (t : Int) ∧ m.fr = (p : Int) then m.many else 0
def cmM (ps : List Psg) (out : Int) (m : Mv) (t p : Nat) : Int := if m.at_ + mvG ps out m = (t : Int) ∧ mvO ps m = (p : Int) then m.many else 0
def wnS (l : List Mv) (t p : Nat) : Nat → Int := sm fun k => wnM (l.getD k Mv.zero) t p
def cmS (ps : List Psg) (out : Int) (l : List Mv) (t p : Nat) : Nat → Int := sm fun k => cmM ps out (l.getD k Mv.zero) t p
theorem leg_step (t p : Nat) : legT ps out m t p = legT ps out m ((t : Int) - 1) p + (cmM ps out m t p - wnM m t p) := by
  unfold legT cmM wnM
  by_cases h1 : mvO ps m = (p : Int) <;> by_cases h2 : m.fr = (p : Int) <;> simp only [h1, h2, and_true, and_false, if_false] <;> (repeat' split) <;> omega
theorem thr_step (t p : Nat) : ∀ n, thr ps out pe l t p n = thr ps out pe l ((t : Int) - 1) p n + (cmS ps out l t p n - wnS l t p n) := by
  intro n
  induction n with
  | zero => unfold thr cmS wnS; simp only [sm]; omega
  | succ n ih =>
    have h1 : ∀ z : Int, thr ps out pe l z p (n + 1) = thr ps out pe l z p n + legT ps out (l.getD n Mv.zero) z p := fun z => (Int.add_assoc _ _ _).symm
    have h2 : cmS ps out l t p (n + 1) = cmS ps out l t p n + cmM ps out (l.getD n Mv.zero) t p := rfl
    have h3 : wnS l t p (n + 1) = wnS l t p n + wnM (l.getD n Mv.zero) t p := rfl
    rw [h1, h1, h2, h3, ih, leg_step]
    omega
theorem thr_first (h : ∀ k, k < l.length → mvOk ps xs out (l.getD k Mv.zero) = true) {p : Nat} : thr ps out pe l (((0 : Nat) : Int) - 1) p l.length = pe.getD p 0 := by
  unfold thr
  rw [sm_zero, Int.add_zero]
  intro k hk
  obtain ⟨⟨_, h1, _⟩, h2, _⟩ := mvOk_iff.1 (h k hk)
  unfold legT
  rw [if_neg (fun h => by have := h.1; omega), if_neg (fun h => by have := h.1; omega)]
  rfl
theorem thr_late (h : ∀ k, k < l.length → mvOk ps xs out (l.getD k Mv.zero) = true) {t p : Nat} (ht : 60 ≤ t) : thr ps out pe l (60 : Nat) p l.length ≤ thr ps out pe l t p l.length := by
  unfold thr
  have : sm (fun k => legT ps out (l.getD k Mv.zero) (60 : Nat) p) l.length ≤ sm (fun k => legT ps out (l.getD k Mv.zero) t p) l.length := by
    refine sm_le fun k hk => ?_
    obtain ⟨⟨_, h1, h2⟩, h3, _⟩ := mvOk_iff.1 (h k hk)
    unfold legT
    by_cases e1 : mvO ps (l.getD k Mv.zero) = (p : Int) <;> by_cases e2 : (l.getD k Mv.zero).fr = (p : Int) <;> simp only [e1, e2, and_true, and_false, if_false] <;> (repeat' split) <;> omega
  omega
theorem wn_bd (h : ∀ k, k < l.length → 1 ≤ (l.getD k Mv.zero).many ∧ (l.getD k Mv.zero).many ≤ 1000) {t p : Nat} : ∀ {n}, n ≤ l.length → 0 ≤ wnS l t p n ∧ wnS l t p n ≤ 1000 * n := by
  intro n
  induction n with
  | zero => intro _; exact ⟨Int.le_refl 0, Int.le_refl 0⟩
  | succ n ih =>
    intro hn
    have h1 := ih (by omega)
    have h2 := h n (by omega)
    have h3 : wnS l t p (n + 1) = wnS l t p n + wnM (l.getD n Mv.zero) t p := rfl
    have h4 : 0 ≤ wnM (l.getD n Mv.zero) t p ∧ wnM (l.getD n Mv.zero) t p ≤ 1000 := by unfold wnM; split <;> omega
    omega
theorem cm_bd (h : ∀ k, k < l.length → 1 ≤ (l.getD k Mv.zero).many ∧ (l.getD k Mv.zero).many ≤ 1000) {t p : Nat} : ∀ {n}, n ≤ l.length → 0 ≤ cmS ps out l t p n ∧ cmS ps out l t p n ≤ 1000 * n := by
  intro n
  induction n with
  | zero => intro _; exact ⟨Int.le_refl 0, Int.le_refl 0⟩
  | succ n ih =>
    intro hn
    have h1 := ih (by omega)
    have h2 := h n (by omega)
    have h3 : cmS ps out l t p (n + 1) = cmS ps out l t p n + cmM ps out (l.getD n Mv.zero) t p := rfl
    have h4 : 0 ≤ cmM ps out (l.getD n Mv.zero) t p ∧ cmM ps out (l.getD n Mv.zero) t p ≤ 1000 := by unfold cmM; split <;> omega
    omega
/-- Two tables: rows of ticks, columns of places. -/
def tabC (f : Nat → Nat → Int) (t p : Nat) : Value := .int .i64 (f t p)
theorem wn_put {n a f : Nat} {v : Int} (ha : (l.getD n Mv.zero).at_ = (a : Int)) (hf : (l.getD n Mv.zero).fr = (f : Int)) (hv : v = wnS l a f n + (l.getD n Mv.zero).many) : ∀ k j, cput (tabC fun t p => wnS l t p n) a f (.int .i64 v) k j = tabC (fun t p => wnS l t p (n + 1)) k j := by
  intro k j
  subst hv
  have h3 : wnS l k j (n + 1) = wnS l k j n + wnM (l.getD n Mv.zero) k j := rfl
  unfold cput tabC
  dsimp only
  rw [h3]
  unfold wnM
  by_cases e : k = a ∧ j = f
  · obtain ⟨rfl, rfl⟩ := e
    rw [if_pos ⟨rfl, rfl⟩, if_pos ⟨ha, hf⟩]
  · rw [if_neg e, if_neg (fun h => e ⟨by omega, by omega⟩), Int.add_zero]
theorem cm_put {n a f : Nat} {v : Int} (ha : (l.getD n Mv.zero).at_ + mvG ps out (l.getD n Mv.zero) = (a : Int)) (hf : mvO ps (l.getD n Mv.zero) = (f : Int)) (hv : v = cmS ps out l a f n + (l.getD n Mv.zero).many) : ∀ k j, cput (tabC fun t p => cmS ps out l t p n) a f (.int .i64 v) k j = tabC (fun t p => cmS ps out l t p (n + 1)) k j := by
  intro k j
  subst hv
  have h3 : cmS ps out l k j (n + 1) = cmS ps out l k j n + cmM ps out (l.getD n Mv.zero) k j := rfl
  unfold cput tabC
  dsimp only
  rw [h3]
  unfold cmM
  by_cases e : k = a ∧ j = f
  · obtain ⟨rfl, rfl⟩ := e
    rw [if_pos ⟨rfl, rfl⟩, if_pos ⟨ha, hf⟩]
  · rw [if_neg e, if_neg (fun h => e ⟨by omega, by omega⟩), Int.add_zero]
theorem grid_of {w0 w : World} {F0 : Nat → Prop} {R : List Mem} {i b ty n m : Nat} {z : Value} (S : St w0 F0 R w) (hi : R[i]? = some (boxM b ty (List.replicate (n * m) z))) (hn : n ≤ maxLen) : St w0 F0 (R.set i (ownM ty m (some ⟨b, 0, none⟩) n n (fun _ _ => z))) w := by
  refine S.imp hi (fun h => .inr ⟨b, _, rfl, h, Nat.le_refl _, hn, by simp, fun k j hk hj => ?_⟩) (fun k hk => by obtain ⟨a, e, h⟩ := hk; cases e; exact h.symm)
  have : k * m + j < n * m := by
    have : (k + 1) * m ≤ n * m := Nat.mul_le_mul_right _ (by omega)
    rw [Nat.add_mul] at this
    omega
  simp [this]

/-! ## how many go along a passage -/
def kMv (k : Int × Int × Int) : Mv := ⟨k.1, k.2.1, k.2.2, 0⟩
def totP (l : List Mv) (n : Nat) (h : Int × Int × Int → Option Value) : Prop := ∀ k, (h k).getD (.int .i64 0) = .int .i64 (totK l (kMv k) n)
theorem totP_none : totP l 0 (fun _ => none) := fun _ => rfl
theorem totP_zero {n : Nat} {k : Int × Int × Int} : ∀ h, totP l n h → h k = none → totP l n (fun k' => if k' = k then some (.int .i64 0) else h k') := fun h hh h0 k' => by
  dsimp only
  by_cases e : k' = k
  · subst e
    have := hh k'
    rw [h0] at this
    rw [if_pos rfl]
    exact this
  · rw [if_neg e]; exact hh k'
theorem tot_key {n : Nat} : totK l (kMv (m.pas, m.fr, m.at_)) n = totK l m n := rfl
theorem totP_step {n : Nat} {v : Int} (hm : (l.getD n Mv.zero).many ≤ 1000) (hv : v = totK l (l.getD n Mv.zero) n + (l.getD n Mv.zero).many) : ∀ h, totP l n h → totP l (n + 1) (fun k' => if k' = ((l.getD n Mv.zero).pas, (l.getD n Mv.zero).fr, (l.getD n Mv.zero).at_) then some (.int .i64 v) else h k') := fun h hh k => by
  subst hv
  dsimp only
  have h3 : totK l (kMv k) (n + 1) = totK l (kMv k) n + if sameK (l.getD n Mv.zero) (kMv k) = true then min (l.getD n Mv.zero).many 1000 else 0 := rfl
  rw [h3]
  by_cases e : k = ((l.getD n Mv.zero).pas, (l.getD n Mv.zero).fr, (l.getD n Mv.zero).at_)
  · subst e
    rw [if_pos rfl, if_pos (by unfold sameK kMv; simp), Int.min_eq_left hm, tot_key]
    rfl
  · rw [if_neg e, if_neg, Int.add_zero]
    · exact hh k
    · intro h
      apply e
      unfold sameK kMv at h
      simp only [Bool.and_eq_true, decide_eq_true_eq] at h
      obtain ⟨k1, k2, k3⟩ := k
      dsimp only at h
      rw [h.1.1, h.1.2, h.2]
theorem sameK_tot {m' : Mv} (h : sameK m m' = true) {n : Nat} : totK l m n = totK l m' n := by
  unfold sameK at h
  simp only [Bool.and_eq_true, decide_eq_true_eq] at h
  unfold totK
  refine sm_congr fun k _ => ?_
  unfold sameK
  rw [h.1.1, h.1.2, h.2]
theorem tot_mono (h : ∀ q, q < l.length → 1 ≤ (l.getD q Mv.zero).many) {n n' : Nat} (hn : n ≤ n') (hl : n' ≤ l.length) : totK l m n ≤ totK l m n' := by
  induction n' with
  | zero => have : n = 0 := by omega
            subst this; exact Int.le_refl _
  | succ q ih =>
    by_cases e : n = q + 1
    · subst e; exact Int.le_refl _
    · have h1 := ih (by omega) (by omega)
      have h2 := h q (by omega)
      have h3 : totK l m (q + 1) = totK l m q + if sameK (l.getD q Mv.zero) m = true then min (l.getD q Mv.zero).many 1000 else 0 := rfl
      rw [h3]
      split <;> omega
/-- All totals stay small as one move more comes. -/
theorem tot_all {n : Nat} (hP : ∀ q, q < n → totK l (l.getD q Mv.zero) n ≤ (mvP ps (l.getD q Mv.zero)).wide) (h : totK l (l.getD n Mv.zero) (n + 1) ≤ (mvP ps (l.getD n Mv.zero)).wide) : ∀ q, q < n + 1 → totK l (l.getD q Mv.zero) (n + 1) ≤ (mvP ps (l.getD q Mv.zero)).wide := fun q hq => by
  by_cases e : q = n
  · subst e; exact h
  · have h1 := hP q (by omega)
    cases hs : sameK (l.getD n Mv.zero) (l.getD q Mv.zero) with
    | true =>
      have h2 := sameK_tot (l := l) hs (n := n + 1)
      have h3 : (l.getD n Mv.zero).pas = (l.getD q Mv.zero).pas := by unfold sameK at hs; simp only [Bool.and_eq_true, decide_eq_true_eq] at hs; exact hs.1.1
      have h4 : mvP ps (l.getD n Mv.zero) = mvP ps (l.getD q Mv.zero) := by unfold mvP; rw [h3]
      rw [← h2, ← h4]; exact h
    | false =>
      have h3 : totK l (l.getD q Mv.zero) (n + 1) = totK l (l.getD q Mv.zero) n + if sameK (l.getD n Mv.zero) (l.getD q Mv.zero) = true then min (l.getD n Mv.zero).many 1000 else 0 := rfl
      rw [h3, if_neg (by rw [hs]; simp), Int.add_zero]; exact h1
/-! ## who is out -/
def cntX (ps : List Psg) (xs : List Int) (out : Int) (pe : List Int) (l : List Mv) (T : Nat) : Nat → Int := sm fun p => if hasI xs p = true then thr ps out pe l T p l.length else 0
def cntT (ps : List Psg) (xs : List Int) (out : Int) (pe : List Int) (l : List Mv) (P T t p : Nat) : Int := if T < t then cntX ps xs out pe l T P else if t = T then cntX ps xs out pe l T p else 0
theorem cnt_next {t p : Nat} : cntT ps xs out pe l P T t (p + 1) = cntT ps xs out pe l P T t p + if t = T ∧ hasI xs p = true then thr ps out pe l t p l.length else 0 := by
  unfold cntT
  by_cases h1 : T < t
  · rw [if_pos h1, if_pos h1, if_neg (fun h => by omega), Int.add_zero]
  · rw [if_neg h1, if_neg h1]
    by_cases h2 : t = T
    · subst h2
      rw [if_pos rfl, if_pos rfl]
      show cntX ps xs out pe l t p + (if hasI xs p = true then thr ps out pe l t p l.length else 0) = _
      congr 1
      by_cases h3 : hasI xs p = true
      · rw [if_pos h3, if_pos ⟨rfl, h3⟩]
      · rw [if_neg h3, if_neg (fun h => h3 h.2)]
    · rw [if_neg h2, if_neg h2, if_neg (fun h => h2 h.1), Int.add_zero]
theorem cnt_row {t : Nat} : cntT ps xs out pe l P T t P = cntT ps xs out pe l P T (t + 1) 0 := by
  unfold cntT
  by_cases h1 : T < t
  · rw [if_pos h1, if_pos (by omega)]
  · rw [if_neg h1]
    by_cases h2 : t = T
    · rw [if_pos h2, if_pos (by omega)]
    · rw [if_neg h2, if_neg (by omega)]
      by_cases h3 : t + 1 = T
      · rw [if_pos h3]; rfl
      · rw [if_neg h3]
theorem cnt_out (V : StV P ps xs) (h : ∀ k, k < l.length → mvOk ps xs out (l.getD k Mv.zero) = true) : cntX ps xs out pe l T P = outN ps xs out pe l P T := by
  let B : Nat → Nat → Int := fun p k => if hasI xs p = true ∧ ((l.getD k Mv.zero).at_ + mvG ps out (l.getD k Mv.zero) ≤ T ∧ mvO ps (l.getD k Mv.zero) = (p : Int)) then (l.getD k Mv.zero).many else 0
  have e1 : cntX ps xs out pe l T P = sm (fun p => (if hasI xs p = true then pe.getD p 0 else 0) + sm (fun k => B p k) l.length) P := by
    refine sm_congr fun p hp => ?_
    by_cases hx : hasI xs p = true
    · rw [if_pos hx, if_pos hx]
      unfold thr
      congr 1
      refine sm_congr fun k hk => ?_
      obtain ⟨_, _, h3⟩ := mvOk_iff.1 (h k hk)
      unfold legT
      show _ = ite _ _ _
      rw [if_neg (c := (l.getD k Mv.zero).at_ ≤ (T : Int) ∧ (l.getD k Mv.zero).fr = (p : Int)) (fun h => by rw [h.2, hx] at h3; cases h3), Int.sub_zero]
      by_cases hc : (l.getD k Mv.zero).at_ + mvG ps out (l.getD k Mv.zero) ≤ T ∧ mvO ps (l.getD k Mv.zero) = (p : Int)
      · rw [if_pos hc, if_pos ⟨hx, hc⟩]
      · rw [if_neg hc, if_neg (fun h => hc h.2)]
    · rw [if_neg hx, if_neg hx, sm_zero (fun k _ => if_neg fun h => hx h.1)]
      rfl
  rw [e1, sm_add, sm_swap]
  unfold outN exitN
  congr 1
  refine sm_congr fun k hq => ?_
  obtain ⟨⟨hpas, hat, hmany⟩, hg, hx⟩ := mvOk_iff.1 (h k hq)
  obtain ⟨i, e, F⟩ := mv_facts V hpas hg
  have h1 := F.toP
  rw [sm_single (p := (mvO ps (l.getD k Mv.zero)).toNat) (by omega) (fun p _ hne => if_neg fun h => by have := h.2.2; omega)]
  unfold outA
  show (ite _ _ _ : Int) = ite _ _ _
  rw [Int.toNat_of_nonneg h1.1]
  by_cases hc : hasI xs (mvO ps (l.getD k Mv.zero)) = true ∧ (l.getD k Mv.zero).at_ + mvG ps out (l.getD k Mv.zero) ≤ T
  · rw [if_pos hc, if_pos ⟨hc.1, hc.2, rfl⟩]
  · rw [if_neg hc, if_neg (fun h => hc ⟨h.1, h.2.1⟩)]
end
end Go.Proofs.Ytlmddkekeoebcaa
