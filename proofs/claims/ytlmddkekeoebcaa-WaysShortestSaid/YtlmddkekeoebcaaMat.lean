/- Slices of slices of numbers: the outer row is an owned slice, the inner rows one part together. -/
import Derived.Test.YtlmddkekeoebcaaCut
namespace Go.Proofs.Ytlmddkekeoebcaa
set_option linter.unusedVariables false
set_option linter.unusedSimpArgs false
open Go.RowKit

def rowv (rb rc : Nat → Nat) (m i : Nat) : Value := .slice (some ⟨rb i, 0, none⟩) m (rc i)
def updN (f : Nat → Nat) (k v : Nat) : Nat → Nat := fun i => if i = k then v else f i
def mset (M : Nat → Nat → Int) (k j : Nat) (v : Int) : Nat → Nat → Int := fun a b => if a = k ∧ b = j then v else M a b
def mrow (M : Nat → Nat → Int) (k : Nat) (f : Nat → Int) : Nat → Nat → Int := fun a b => if a = k then f b else M a b
def icl (l : List Int) (k _j : Nat) : Value := .int .i64 (l.getD k 0)
def icell1 (n : Int) (_j : Nat) : Value := .int .i64 n
def icell (f : Nat → Int) : Nat → Nat → Value := fun j _ => .int .i64 (f j)

/-- k rows of m numbers each. -/
def rowsM (e : TypeId) (k m : Nat) (rb rc : Nat → Nat) (M : Nat → Nat → Int) : Mem where
  fp := fun q => ∃ i, i < k ∧ q = rb i
  holds := fun w => (∀ i, i < k → m ≤ rc i ∧ rc i ≤ maxLen ∧ ∃ rs : Array Value, w.heap[rb i]? = some (.cells rs e (0, 0)) ∧ rs.size = rc i ∧ ∀ j, j < m → rs[j]? = some (.int .i64 (M i j))) ∧
    ∀ i i', i < k → i' < k → rb i = rb i' → i = i'
  stable := fun w w' h ⟨h1, h2⟩ => ⟨fun i hi => by
    obtain ⟨ha, hb, rs, hc, hd⟩ := h1 i hi
    exact ⟨ha, hb, rs, (h _ ⟨i, hi, rfl⟩).trans hc, hd⟩, h2⟩

section
variable {P : Program} {ops : Array Oper} {w w0 : World} {F0 F : Nat → Prop} {R : List Mem} {Q : Exit → Act → World → Prop} {rest : List Oper} {N : FN} {L : List (Nat × Value)} {a : Act} {ty : TypeId} {pos : String} {af : Array Edge}
variable {e k m : Nat} {rb rc : Nat → Nat} {M : Nat → Nat → Int}

theorem rowsM.rd {i p q : Nat} (S : St w0 F0 R w) (hi : R[i]? = some (rowsM e k m rb rc M)) (hp : p < k) (hq : q < m) : w.cell? (pt (some ⟨rb p, 0, none⟩) 1 q 0) = some (.int .i64 (M p q)) := by
  obtain ⟨h1, _⟩ := S.holds hi
  obtain ⟨_, _, rs, hc, _, hd⟩ := h1 p hp
  have : pt (some ⟨rb p, 0, none⟩) 1 q 0 = ⟨rb p, q, none⟩ := by simp [pt, adr]
  rw [this, cell_of_row w (rb p) q rs e (0, 0) hc]
  exact hd q hq

theorem rowsM.inS {i p : Nat} (S : St w0 F0 R w) (hi : R[i]? = some (rowsM e k m rb rc M)) (hp : p < k) : InS w noF 1 (some ⟨rb p, 0, none⟩) m (icell (M p)) := by
  intro _
  obtain ⟨h1, _⟩ := S.holds hi
  obtain ⟨_, _, rs, hc, _, hd⟩ := h1 p hp
  refine ⟨rb p, 0, rfl, lt_of_heap hc, fun h => h, fun q j hq hj => ?_⟩
  have hj0 : j = 0 := by omega
  subst hj0
  have h3 := cell_of_row w (rb p) q rs e (0, 0) hc
  simp only [Nat.zero_add, Nat.mul_one, Nat.add_zero]
  rw [h3]
  exact hd q hq

theorem rowsM.zero (S : St w0 F0 R w) (e m : Nat) (rb rc : Nat → Nat) (M : Nat → Nat → Int) : St w0 F0 (rowsM e 0 m rb rc M :: R) w :=
  S.new (Keeps.refl _ _) ⟨fun i h => absurd h (by omega), fun i i' h => absurd h (by omega)⟩ fun q ⟨i, h, _⟩ => absurd h (by omega)

theorem rowsM.congr {i : Nat} {M' : Nat → Nat → Int} {rb' rc' : Nat → Nat} (S : St w0 F0 R w) (hi : R[i]? = some (rowsM e k m rb rc M)) (h : ∀ p q, p < k → q < m → M p q = M' p q) (hb : ∀ p, p < k → rb p = rb' p) (hc : ∀ p, p < k → rc p = rc' p) : St w0 F0 (R.set i (rowsM e k m rb' rc' M')) w := by
  refine S.imp hi ?_ ?_
  · rintro ⟨h1, h2⟩
    refine ⟨fun p hp => ?_, fun p p' hp hp' hh => h2 p p' hp hp' (by rw [hb p hp, hb p' hp', hh])⟩
    obtain ⟨ha, hb1, rs, hc1, hd, he⟩ := h1 p hp
    rw [← hb p hp, ← hc p hp]
    exact ⟨ha, hb1, rs, hc1, hd, fun q hq => by rw [he q hq, h p q hp hq]⟩
  · rintro q ⟨p, hp, rfl⟩
    exact ⟨p, hp, (hb p hp).symm⟩

/-- A row that the call has made goes to the others. -/
theorem rowsM.add {A : Option Addr} {c : Nat} {f : Nat → Int} {cell : Nat → Nat → Value} (S : St w0 F0 (ownM e 1 A m c cell :: rowsM e k m rb rc M :: R) w) (hA : A ≠ none) (hf : ∀ j, j < m → cell j 0 = .int .i64 (f j)) :
    ∃ b, A = some ⟨b, 0, none⟩ ∧ St w0 F0 (rowsM e (k + 1) m (updN rb k b) (updN rc k c) (mrow M k f) :: R) w := by
  have h0 := S.holds (i := 0) rfl
  rcases h0 with ⟨h, _, _⟩ | ⟨b, cs, rfl, hb, hnc, hcm, hsz, hc⟩
  · exact absurd h hA
  refine ⟨b, rfl, ?_⟩
  obtain ⟨h1, h2⟩ := S.holds (i := 1) rfl
  have hne : ∀ i, i < k → rb i ≠ b := fun i hi e1 => S.disj 0 1 _ _ rfl rfl (by omega) b ⟨_, rfl, rfl⟩ ⟨i, hi, e1.symm⟩
  have hfp : ∀ q, (rowsM e (k + 1) m (updN rb k b) (updN rc k c) (mrow M k f)).fp q → (ownM e 1 (some ⟨b, 0, none⟩) m c cell).fp q ∨ (rowsM e k m rb rc M).fp q := by
    rintro q ⟨i, hi, rfl⟩
    by_cases hik : i = k
    · subst hik; exact .inl ⟨_, rfl, by simp [updN]⟩
    · exact .inr ⟨i, by omega, by simp [updN, hik]⟩
  refine ⟨S.os, S.tape, S.out, S.size, S.ro, ?_, ?_, ?_⟩
  · intro x hx
    rcases List.mem_cons.1 hx with rfl | hx
    · refine ⟨fun i hi => ?_, ?_⟩
      · by_cases hik : i = k
        · subst hik
          simp only [updN, if_pos]
          refine ⟨hnc, hcm, cs, hb, by omega, fun j hj => ?_⟩
          have := hc j 0 hj (by omega)
          simp only [Nat.mul_one, Nat.add_zero] at this
          rw [this, hf j hj]; simp [mrow]
        · simp only [updN, if_neg hik]
          obtain ⟨ha, hb1, rs, hc1, hd, he⟩ := h1 i (by omega)
          exact ⟨ha, hb1, rs, hc1, hd, fun j hj => by rw [he j hj]; simp [mrow, hik]⟩
      · intro i i' hi hi' heq
        simp only [updN] at heq
        by_cases hik : i = k <;> by_cases hik' : i' = k
        · omega
        · rw [if_pos hik, if_neg hik'] at heq; exact absurd heq.symm (hne i' (by omega))
        · rw [if_neg hik, if_pos hik'] at heq; exact absurd heq (hne i (by omega))
        · rw [if_neg hik, if_neg hik'] at heq; exact h2 i i' (by omega) (by omega) heq
    · exact S.res x (List.mem_cons_of_mem _ (List.mem_cons_of_mem _ hx))
  · intro x hx q hq
    rcases List.mem_cons.1 hx with rfl | hx
    · rcases hfp q hq with h | h
      · exact S.inn _ (List.mem_cons_self ..) q h
      · exact S.inn _ (List.mem_cons_of_mem _ (List.mem_cons_self ..)) q h
    · exact S.inn x (List.mem_cons_of_mem _ (List.mem_cons_of_mem _ hx)) q hq
  · intro i j x y hi hj hij q hq hq'
    cases i with
    | zero =>
      cases j with
      | zero => omega
      | succ j =>
        simp at hi hj; subst hi
        rcases hfp q hq with h | h
        · exact S.disj 0 (j + 2) _ y rfl hj (by omega) q h hq'
        · exact S.disj 1 (j + 2) _ y rfl hj (by omega) q h hq'
    | succ i =>
      cases j with
      | zero =>
        simp at hi hj; subst hj
        rcases hfp q hq' with h | h
        · exact S.disj (i + 2) 0 x _ hi rfl (by omega) q hq h
        · exact S.disj (i + 2) 1 x _ hi rfl (by omega) q hq h
      | succ j =>
        simp at hi hj
        exact S.disj (i + 2) (j + 2) x y hi hj (by omega) q hq hq'

/-- A store into a row. -/
theorem list_store_row {t i p q : Nat} {x y : Operand} {v : Int} (H : Fr N L a) (S : St w0 F0 R w) (hi : R[i]? = some (rowsM e k m rb rc M))
    (hx : ev L x = some (.pointer (some (pt (some ⟨rb p, 0, none⟩) 1 q 0)))) (hy : ev L y = some (.int .i64 v)) (hp : p < k) (hq : q < m) (hs : Sz P t 1)
    (kk : ∀ w' a', St w0 F0 (R.set i (rowsM e k m rb rc (mset M p q v))) w' → Fr N L a' → wpList P ops Q rest a' w') :
    wpList P ops Q (⟨none, .store t x y, ty, pos, af, none⟩ :: rest) a w := by
  refine wpList_plain rfl fun K hK => ?_
  unfold Oper.wp
  obtain ⟨h1, h2⟩ := S.holds hi
  obtain ⟨ha, hb1, rs, hc1, hd, he⟩ := h1 p hp
  have hpe : pt (some ⟨rb p, 0, none⟩) 1 q 0 = ⟨rb p, q, none⟩ := by simp [pt, adr]
  rw [hpe] at hx
  have hr := run_storeVar (P := P) (w := w) (t := t) (b := rb p) (o := q) (v := .int .i64 v) (vs := [.int .i64 v]) (by simpa using hs) rfl hc1 (by simp; omega) (by simp [Value.oneCell'])
  have e1 : (execOp a.eval ⟨none, .store t x y, ty, pos, af, none⟩).run P w = .ok .skip (w.setRow (rb p) (splice rs.toList q [.int .i64 v]).toArray) := by
    simp [execOp, H.eval hx, H.eval hy, hr]
  rw [e1]
  refine hK _ _ (kk _ _ (S.updSame hi ((setRow_keeps w (rb p) _).mono ?_) ?_ (fun _ h => h)) (H.put_none _))
  · rintro u rfl; exact ⟨p, hp, rfl⟩
  · refine ⟨fun i' hi' => ?_, h2⟩
    by_cases hip : i' = p
    · subst hip
      refine ⟨ha, hb1, _, setRow_heap w _ _ _ e (0, 0) hc1, ?_, fun j hj => ?_⟩
      · rw [List.size_toArray, splice_length _ _ _ (by simp; omega)]; simpa using hd
      · rw [List.getElem?_toArray, splice_eq _ _ _ (by simp; omega)]
        have hej := he j hj
        by_cases hjq : j = q
        · subst hjq
          rw [List.append_assoc, List.getElem?_append_right (by simp; omega)]
          have : min j rs.size = j := by omega
          simp [mset, this]
        · have : mset M i' q v i' j = M i' j := by simp [mset, hjq]
          rw [this, ← hej]
          rcases Nat.lt_or_ge j q with h | h
          · rw [List.append_assoc, List.getElem?_append_left (by simp; omega), List.getElem?_take_of_lt h]; simp
          · rw [List.getElem?_append_right (by simp; omega), List.getElem?_drop]
            simp only [List.length_append, List.length_take, List.length_cons, List.length_nil, Array.length_toList]
            rw [Nat.min_eq_left (by omega), show q + (0 + 1) + (j - (q + (0 + 1))) = j by omega]
            simp
    · obtain ⟨ha', hb', rs', hc', hd', he'⟩ := h1 i' hi'
      refine ⟨ha', hb', rs', ?_, hd', fun j hj => by rw [he' j hj]; simp [mset, hip]⟩
      have hne : rb i' ≠ rb p := fun e2 => hip (h2 i' p hi' hp e2)
      exact (setRow_other w _ _ _ (fun e3 => hne e3)).trans hc'
end
end Go.Proofs.Ytlmddkekeoebcaa
