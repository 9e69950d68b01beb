/- Memory as a list of owned parts: which blocks each part takes, what it says, and that the parts lie apart. -/
import Derived.Test.YtlmddkekeoebcaaEng
namespace Go.Proofs.Ytlmddkekeoebcaa
set_option linter.unusedVariables false
set_option linter.unusedSimpArgs false
open Go.RowKit

structure Mem where
  fp : Nat → Prop
  holds : World → Prop
  stable : ∀ w w' : World, (∀ k, fp k → w'.heap[k]? = w.heap[k]?) → holds w → holds w'

def noF : Nat → Prop := fun _ => False

structure St (w0 : World) (F0 : Nat → Prop) (R : List Mem) (w : World) : Prop where
  os : w.os = w0.os
  tape : w.tape = w0.tape
  out : w.output = w0.output
  size : w0.heap.size ≤ w.heap.size
  ro : ∀ k, k < w0.heap.size → ¬ F0 k → w.heap[k]? = w0.heap[k]?
  res : ∀ m ∈ R, m.holds w
  inn : ∀ m ∈ R, ∀ k, m.fp k → k < w.heap.size ∧ (k < w0.heap.size → F0 k)
  disj : ∀ (i j : Nat) (m m' : Mem), R[i]? = some m → R[j]? = some m' → i ≠ j → ∀ k, m.fp k → ¬ m'.fp k

theorem lt_of_heap {w : World} {k : Nat} {o : Obj} (h : w.heap[k]? = some o) : k < w.heap.size := (Array.getElem?_eq_some_iff.1 h).1

section
variable {w0 w w' w1 : World} {F0 F : Nat → Prop} {R R' : List Mem} {m m' : Mem}

theorem St.start (w : World) : St w noF [] w :=
  ⟨rfl, rfl, rfl, Nat.le_refl _, fun _ _ _ => rfl, fun _ h => by simp at h, fun _ h => by simp at h, fun i j m m' h => by simp at h⟩

theorem St.start1 (hm : m.holds w) (hb : ∀ k, m.fp k → k < w.heap.size) : St w m.fp [m] w :=
  ⟨rfl, rfl, rfl, Nat.le_refl _, fun _ _ _ => rfl, fun x h => by simp at h; subst h; exact hm, fun x h k hk => by simp at h; subst h; exact ⟨hb k hk, fun _ => hk⟩,
    fun i j a b hi hj hij => by
      have h1 : i = 0 := by cases i with | zero => rfl | succ i => simp at hi
      have h2 : j = 0 := by cases j with | zero => rfl | succ j => simp at hj
      omega⟩

/-- The blocks of a list of parts. -/
def fps (R : List Mem) : Nat → Prop := fun k => ∃ m ∈ R, m.fp k

theorem St.startR (S : St w0 F0 R w) : St w (fps R) R w :=
  ⟨rfl, rfl, rfl, Nat.le_refl _, fun _ _ _ => rfl, S.res, fun m h k hk => ⟨(S.inn m h k hk).1, fun _ => ⟨m, h, hk⟩⟩, S.disj⟩

theorem St.holds (S : St w0 F0 R w) {i : Nat} (hi : R[i]? = some m) : m.holds w := S.res m (List.mem_of_getElem? hi)

theorem St.drew (S : St w0 F0 R w) : St w0 F0 R w.drew :=
  ⟨S.os, S.tape, S.out, S.size, S.ro, fun m h => m.stable w _ (fun _ _ => rfl) (S.res m h), S.inn, S.disj⟩

theorem St.drewN (S : St w0 F0 R w) (n : Nat) : St w0 F0 R (w.drewN n) :=
  ⟨S.os, S.tape, S.out, S.size, S.ro, fun m h => m.stable w _ (fun _ _ => rfl) (S.res m h), S.inn, S.disj⟩

/-- How two worlds agree outside some blocks. -/
structure Keeps (w w' : World) (F : Nat → Prop) : Prop where
  os : w'.os = w.os
  tape : w'.tape = w.tape
  out : w'.output = w.output
  size : w.heap.size ≤ w'.heap.size
  kept : ∀ k, k < w.heap.size → ¬ F k → w'.heap[k]? = w.heap[k]?

theorem Keeps.refl (w : World) (F : Nat → Prop) : Keeps w w F := ⟨rfl, rfl, rfl, Nat.le_refl _, fun _ _ _ => rfl⟩
theorem Keeps.drew (w : World) (F : Nat → Prop) : Keeps w w.drew F := ⟨rfl, rfl, rfl, Nat.le_refl _, fun _ _ _ => rfl⟩
theorem Keeps.alloc (w : World) (o : Obj) (F : Nat → Prop) : Keeps w (w.alloc o) F := ⟨rfl, rfl, rfl, by simp, fun k hk _ => Below.heap_alloc w o k hk⟩
theorem Keeps.trans {F : Nat → Prop} (h : Keeps w w' F) (k : Keeps w' w1 F) : Keeps w w1 F :=
  ⟨k.os.trans h.os, k.tape.trans h.tape, k.out.trans h.out, Nat.le_trans h.size k.size, fun i hi hf => (k.kept i (Nat.lt_of_lt_of_le hi h.size) hf).trans (h.kept i hi hf)⟩
theorem Keeps.of_grown {row : Option Nat} (h : w.grownBy w' row) : Keeps w w' (fun k => row = some k) :=
  ⟨h.os, h.tape, h.output, h.size, fun k hk hf => h.block k hk (fun e => hf e.symm)⟩
theorem Keeps.mono {F F' : Nat → Prop} (h : Keeps w w' F) (hF : ∀ k, F k → F' k) : Keeps w w' F' :=
  ⟨h.os, h.tape, h.out, h.size, fun k hk hf => h.kept k hk (fun e => hf (hF k e))⟩

/-- A new part in new blocks. -/
theorem St.new (S : St w0 F0 R w) (K : Keeps w w' noF) (hm : m'.holds w') (hf : ∀ k, m'.fp k → w.heap.size ≤ k ∧ k < w'.heap.size) : St w0 F0 (m' :: R) w' := by
  refine ⟨K.os.trans S.os, K.tape.trans S.tape, K.out.trans S.out, Nat.le_trans S.size K.size,
    fun k hk hf => (K.kept k (Nat.lt_of_lt_of_le hk S.size) (fun h => h)).trans (S.ro k hk hf), ?_, ?_, ?_⟩
  · intro m h
    rcases List.mem_cons.1 h with rfl | h
    · exact hm
    · exact m.stable w w' (fun k hk => K.kept k (S.inn m h k hk).1 (fun h => h)) (S.res m h)
  · intro m h k hk
    rcases List.mem_cons.1 h with rfl | h
    · exact ⟨(hf k hk).2, fun hlt => by have := (hf k hk).1; have := S.size; omega⟩
    · exact ⟨Nat.lt_of_lt_of_le (S.inn m h k hk).1 K.size, (S.inn m h k hk).2⟩
  · intro i j a b hi hj hij k hk hk'
    cases i with
    | zero =>
      cases j with
      | zero => exact hij rfl
      | succ j =>
        simp at hi hj; subst hi
        have := (hf k hk).1
        have := (S.inn b (List.mem_of_getElem? hj) k hk').1
        omega
    | succ i =>
      cases j with
      | zero =>
        simp at hi hj; subst hj
        have := (hf k hk').1
        have := (S.inn a (List.mem_of_getElem? hi) k hk).1
        omega
      | succ j =>
        simp at hi hj
        exact S.disj i j a b hi hj (by omega) k hk hk'

theorem get_set {α : Type} {R : List α} {i j : Nat} {m m' x : α} (hi : R[i]? = some m) (h : (R.set i m')[j]? = some x) : (j = i ∧ x = m') ∨ (j ≠ i ∧ R[j]? = some x) := by
  rw [List.getElem?_set] at h
  by_cases e : i = j
  · subst e
    have hil : i < R.length := by
      rcases Nat.lt_or_ge i R.length with h | h
      · exact h
      · rw [List.getElem?_eq_none h] at hi; cases hi
    rw [if_pos rfl, if_pos hil, Option.some.injEq] at h
    exact .inl ⟨rfl, h.symm⟩
  · rw [if_neg e] at h
    exact .inr ⟨fun h => e h.symm, h⟩

/-- A part that is written. -/
theorem St.upd (S : St w0 F0 R w) {i : Nat} (hi : R[i]? = some m) (K : Keeps w w' m.fp) (hm : m'.holds w')
    (hf : ∀ k, m'.fp k → m.fp k ∨ (w.heap.size ≤ k ∧ k < w'.heap.size)) : St w0 F0 (R.set i m') w' := by
  have hmR : m ∈ R := List.mem_of_getElem? hi
  refine ⟨K.os.trans S.os, K.tape.trans S.tape, K.out.trans S.out, Nat.le_trans S.size K.size, ?_, ?_, ?_, ?_⟩
  · intro k hk hF
    refine (K.kept k (Nat.lt_of_lt_of_le hk S.size) (fun hmk => hF ((S.inn m hmR k hmk).2 hk))).trans (S.ro k hk hF)
  · intro x hx
    obtain ⟨j, hj⟩ := List.getElem?_of_mem hx
    rcases get_set hi hj with ⟨_, rfl⟩ | ⟨hji, hxj⟩
    · exact hm
    · exact x.stable w w' (fun k hk => K.kept k (S.inn x (List.mem_of_getElem? hxj) k hk).1 (fun h => S.disj j i x m hxj hi hji k hk h)) (S.res x (List.mem_of_getElem? hxj))
  · intro x hx k hk
    obtain ⟨j, hj⟩ := List.getElem?_of_mem hx
    rcases get_set hi hj with ⟨_, rfl⟩ | ⟨hji, hxj⟩
    · rcases hf k hk with h | h
      · exact ⟨Nat.lt_of_lt_of_le (S.inn m hmR k h).1 K.size, (S.inn m hmR k h).2⟩
      · exact ⟨h.2, fun hlt => by have := S.size; omega⟩
    · have := S.inn x (List.mem_of_getElem? hxj) k hk
      exact ⟨Nat.lt_of_lt_of_le this.1 K.size, this.2⟩
  · intro a b x y ha hb hab k hk hk'
    rcases get_set hi ha with ⟨ea, rfl⟩ | ⟨hai, hxa⟩ <;> rcases get_set hi hb with ⟨eb, rfl⟩ | ⟨hbi, hyb⟩
    · omega
    · rcases hf k hk with h | h
      · exact S.disj i b m y hi hyb (fun e => hbi e.symm) k h hk'
      · have := (S.inn y (List.mem_of_getElem? hyb) k hk').1; omega
    · rcases hf k hk' with h | h
      · exact S.disj a i x m hxa hi hai k hk h
      · have := (S.inn x (List.mem_of_getElem? hxa) k hk).1; omega
    · exact S.disj a b x y hxa hyb hab k hk hk'

theorem St.updSame (S : St w0 F0 R w) {i : Nat} (hi : R[i]? = some m) (K : Keeps w w' m.fp) (hm : m'.holds w') (hf : ∀ k, m'.fp k → m.fp k) : St w0 F0 (R.set i m') w' :=
  S.upd hi K hm fun k hk => .inl (hf k hk)

/-- The same memory, said otherwise. -/
theorem St.imp (S : St w0 F0 R w) {i : Nat} (hi : R[i]? = some m) (hm : m.holds w → m'.holds w) (hf : ∀ k, m'.fp k → m.fp k) : St w0 F0 (R.set i m') w :=
  S.updSame hi (Keeps.refl _ _) (hm (S.holds hi)) hf

/-- Parts left out or in another order: by their numbers. -/
def sel : List Nat → List Mem → Option (List Mem)
  | [], _ => some []
  | k :: ks, R => match R[k]? with
    | some m => match sel ks R with
      | some r => some (m :: r)
      | none => none
    | none => none

theorem sel_get : ∀ {ks : List Nat} {R R' : List Mem}, sel ks R = some R' → ∀ (i : Nat) (m : Mem), R'[i]? = some m → ∃ k, ks[i]? = some k ∧ R[k]? = some m := by
  intro ks
  induction ks with
  | nil => intro R R' h i m hi; simp only [sel, Option.some.injEq] at h; subst h; simp at hi
  | cons k ks ih =>
    intro R R' h i m hi
    simp only [sel] at h
    split at h
    · rename_i m0 hm0
      split at h
      · rename_i r hr
        simp only [Option.some.injEq] at h
        subst h
        cases i with
        | zero => simp at hi; subst hi; exact ⟨k, by simp, hm0⟩
        | succ i =>
          simp at hi
          obtain ⟨q, h1, h2⟩ := ih hr i m hi
          exact ⟨q, by simpa using h1, h2⟩
      · cases h
    · cases h

def distinct : List Nat → Bool
  | [] => true
  | k :: ks => (ks.all fun j => !Nat.beq k j) && distinct ks

theorem distinct_get : ∀ {ks : List Nat}, distinct ks = true → ∀ (i j k : Nat), ks[i]? = some k → ks[j]? = some k → i = j := by
  intro ks
  induction ks with
  | nil => intro _ i j k hi; simp at hi
  | cons q ks ih =>
    intro h i j k hi hj
    simp only [distinct, Bool.and_eq_true, List.all_eq_true] at h
    cases i with
    | zero =>
      simp at hi; subst hi
      cases j with
      | zero => rfl
      | succ j =>
        simp at hj
        have := h.1 q (List.mem_of_getElem? hj)
        simp at this
    | succ i =>
      simp at hi
      cases j with
      | zero =>
        simp at hj; subst hj
        have := h.1 q (List.mem_of_getElem? hi)
        simp at this
      | succ j =>
        simp at hj
        exact congrArg (· + 1) (ih h.2 i j k hi hj)

theorem St.sel (S : St w0 F0 R w) (ks : List Nat) (h : Go.Proofs.Ytlmddkekeoebcaa.sel ks R = some R') (hd : distinct ks = true) : St w0 F0 R' w := by
  refine ⟨S.os, S.tape, S.out, S.size, S.ro, ?_, ?_, ?_⟩
  · intro m hm
    obtain ⟨i, hi⟩ := List.getElem?_of_mem hm
    obtain ⟨k, _, hk⟩ := sel_get h i m hi
    exact S.res m (List.mem_of_getElem? hk)
  · intro m hm
    obtain ⟨i, hi⟩ := List.getElem?_of_mem hm
    obtain ⟨k, _, hk⟩ := sel_get h i m hi
    exact S.inn m (List.mem_of_getElem? hk)
  · intro i j a b hi hj hij
    obtain ⟨k, hk, hk'⟩ := sel_get h i a hi
    obtain ⟨q, hq, hq'⟩ := sel_get h j b hj
    exact S.disj k q a b hk' hq' (fun e => hij (distinct_get hd i j k hk (e ▸ hq)))

/-- Behind a call that wrote some parts. -/
theorem St.callR {M : List Mem} (S : St w0 F0 (M ++ R) w) (S' : St w (fps M) R' w') : St w0 F0 (R' ++ R) w' := by
  have hR : ∀ x ∈ R, ∀ k, x.fp k → ¬ fps M k := by
    intro x hx k hk ⟨m, hm, hmk⟩
    obtain ⟨i, hi⟩ := List.getElem?_of_mem hx
    obtain ⟨j, hj⟩ := List.getElem?_of_mem hm
    have hjl : j < M.length := by
      rcases Nat.lt_or_ge j M.length with h | h
      · exact h
      · rw [List.getElem?_eq_none h] at hj; cases hj
    refine S.disj j (M.length + i) m x (by rw [List.getElem?_append_left hjl]; exact hj) (by rw [List.getElem?_append_right (by omega)]; simpa using hi) (by omega) k hmk hk
  refine ⟨S'.os.trans S.os, S'.tape.trans S.tape, S'.out.trans S.out, Nat.le_trans S.size S'.size, ?_, ?_, ?_, ?_⟩
  · intro k hk hF
    refine (S'.ro k (Nat.lt_of_lt_of_le hk S.size) ?_).trans (S.ro k hk hF)
    rintro ⟨m, hm, hmk⟩
    exact hF ((S.inn m (List.mem_append_left _ hm) k hmk).2 hk)
  · intro x hx
    rcases List.mem_append.1 hx with hx | hx
    · exact S'.res x hx
    · exact x.stable w w' (fun k hk => S'.ro k (S.inn x (List.mem_append_right _ hx) k hk).1 (hR x hx k hk)) (S.res x (List.mem_append_right _ hx))
  · intro x hx k hk
    rcases List.mem_append.1 hx with hx | hx
    · refine ⟨(S'.inn x hx k hk).1, fun hlt => ?_⟩
      obtain ⟨m, hm, hmk⟩ := (S'.inn x hx k hk).2 (Nat.lt_of_lt_of_le hlt S.size)
      exact (S.inn m (List.mem_append_left _ hm) k hmk).2 hlt
    · have := S.inn x (List.mem_append_right _ hx) k hk
      exact ⟨Nat.lt_of_lt_of_le this.1 S'.size, this.2⟩
  · intro i j a b hi hj hij k hk hk'
    rw [List.getElem?_append] at hi hj
    split at hi <;> split at hj
    · exact S'.disj i j a b hi hj hij k hk hk'
    · have hb := List.mem_of_getElem? hj
      have hlt := (S.inn b (List.mem_append_right _ hb) k hk').1
      exact hR b hb k hk' ((S'.inn a (List.mem_of_getElem? hi) k hk).2 hlt)
    · have ha := List.mem_of_getElem? hi
      have hlt := (S.inn a (List.mem_append_right _ ha) k hk).1
      exact hR a ha k hk ((S'.inn b (List.mem_of_getElem? hj) k hk').2 hlt)
    · rename_i h1 h2
      refine S.disj (M.length + (i - R'.length)) (M.length + (j - R'.length)) a b ?_ ?_ (by omega) k hk hk'
      · rw [List.getElem?_append_right (by omega)]; simpa using hi
      · rw [List.getElem?_append_right (by omega)]; simpa using hj

/-- Behind a call that wrote nothing of what was there. -/
theorem St.call (S : St w0 F0 R w) (S' : St w noF R' w') : St w0 F0 (R' ++ R) w' := by
  refine St.callR (M := []) S ⟨S'.os, S'.tape, S'.out, S'.size, fun k hk _ => S'.ro k hk (fun h => h), S'.res, fun m hm k hk => ?_, S'.disj⟩
  have := S'.inn m hm k hk
  exact ⟨this.1, fun h => (this.2 h).elim⟩

theorem St.call1 (S : St w0 F0 (m :: R) w) (S' : St w m.fp R' w') : St w0 F0 (R' ++ R) w' := by
  refine St.callR (M := [m]) S ⟨S'.os, S'.tape, S'.out, S'.size, fun k hk h => S'.ro k hk (fun e => h ⟨m, by simp, e⟩), S'.res, fun x hx k hk => ?_, S'.disj⟩
  have := S'.inn x hx k hk
  exact ⟨this.1, fun h => ⟨m, by simp, this.2 h⟩⟩

theorem St.keeps (S : St w0 F0 R w) : Keeps w0 w F0 := ⟨S.os, S.tape, S.out, S.size, S.ro⟩
end

/-! ## the kinds of parts -/
/-- One block whose cells are known. -/
def boxM (b : Nat) (t : TypeId) (cs : List Value) : Mem where
  fp := fun k => k = b
  holds := fun w => w.heap[b]? = some (.cells cs.toArray t (0, 0))
  stable := fun _ _ h h' => (h b rfl).trans h'

/-- One block with n cells at least, whose first n cells are known by their number. -/
def rowM (b : Nat) (t : TypeId) (n : Nat) (f : Nat → Value) : Mem where
  fp := fun k => k = b
  holds := fun w => ∃ cs : Array Value, w.heap[b]? = some (.cells cs t (0, 0)) ∧ n ≤ cs.size ∧ ∀ i, i < n → cs[i]? = some (f i)
  stable := fun _ _ h ⟨cs, h1, h2⟩ => ⟨cs, (h b rfl).trans h1, h2⟩

def adr (A : Option Addr) : Addr := A.getD ⟨0, 0, none⟩
/-- Cell j of element k of a slice. -/
def pt (A : Option Addr) (sz k j : Nat) : Addr := ⟨(adr A).block, (adr A).off + k * sz + j, none⟩

/-- A slice's own row: A, n, c are its address, length and capacity. -/
def ownM (e : TypeId) (sz : Nat) (A : Option Addr) (n c : Nat) (cell : Nat → Nat → Value) : Mem where
  fp := fun k => ∃ a, A = some a ∧ a.block = k
  holds := fun w => (A = none ∧ n = 0 ∧ c = 0) ∨ ∃ (b : Nat) (cs : Array Value), A = some ⟨b, 0, none⟩ ∧ w.heap[b]? = some (.cells cs e (0, 0)) ∧ n ≤ c ∧ c ≤ maxLen ∧ cs.size = c * sz ∧
    ∀ k j, k < n → j < sz → cs[k * sz + j]? = some (cell k j)
  stable := fun _ _ h h' => by
    rcases h' with h' | ⟨b, cs, hA, hb, h'⟩
    · exact .inl h'
    · exact .inr ⟨b, cs, hA, (h b ⟨_, hA, rfl⟩).trans hb, h'⟩

/-- A slice that is only read. -/
def InS (w : World) (F : Nat → Prop) (sz : Nat) (A : Option Addr) (n : Nat) (cell : Nat → Nat → Value) : Prop :=
  0 < n → ∃ b o, A = some ⟨b, o, none⟩ ∧ b < w.heap.size ∧ ¬ F b ∧ ∀ k j, k < n → j < sz → w.cell? ⟨b, o + k * sz + j, none⟩ = some (cell k j)

section
variable {w0 w w' : World} {F0 F : Nat → Prop} {R : List Mem} {sz n c : Nat} {A : Option Addr} {cell : Nat → Nat → Value} {e : TypeId}

theorem InS.rd (h : InS w0 F0 sz A n cell) (S : St w0 F0 R w) {k j : Nat} (hk : k < n) (hj : j < sz) : w.cell? (pt A sz k j) = some (cell k j) := by
  obtain ⟨b, o, rfl, hb, hF, hc⟩ := h (by omega)
  have := hc k j hk hj
  rw [← this]
  exact World.cell?_of_block (w := w0) (S.ro b hb hF)

theorem InS.adr (h : InS w0 F0 sz A n cell) (hn : 0 < n) : A = some ⟨(adr A).block, (adr A).off, none⟩ := by
  obtain ⟨b, o, rfl, _⟩ := h hn
  rfl

/-- As it reads now, for a callee. -/
theorem InS.now (h : InS w0 F0 sz A n cell) (S : St w0 F0 R w) : InS w noF sz A n cell := by
  intro hn
  obtain ⟨b, o, rfl, hb, hF, hc⟩ := h hn
  refine ⟨b, o, rfl, Nat.lt_of_lt_of_le hb S.size, fun h => h, fun k j hk hj => ?_⟩
  rw [← hc k j hk hj]
  exact World.cell?_of_block (w := w0) (S.ro b hb hF)

theorem ownM.rd {i k j : Nat} (S : St w0 F0 R w) (hi : R[i]? = some (ownM e sz A n c cell)) (hk : k < n) (hj : j < sz) : w.cell? (pt A sz k j) = some (cell k j) := by
  rcases S.holds hi with ⟨_, h, _⟩ | ⟨b, cs, rfl, hb, _, _, _, hc⟩
  · omega
  · rw [← hc k j hk hj]
    have : pt (some ⟨b, 0, none⟩) sz k j = ⟨b, k * sz + j, none⟩ := by simp [pt, Go.Proofs.Ytlmddkekeoebcaa.adr]
    rw [this]
    exact cell_of_row w b _ cs e (0, 0) hb

theorem ownM.adr {i : Nat} (S : St w0 F0 R w) (hi : R[i]? = some (ownM e sz A n c cell)) (hn : 0 < n) : A = some ⟨(adr A).block, (adr A).off, none⟩ := by
  rcases S.holds hi with ⟨_, h, _⟩ | ⟨b, cs, rfl, _⟩
  · omega
  · rfl

theorem ownM.inS {i : Nat} (S : St w0 F0 R w) (hi : R[i]? = some (ownM e sz A n c cell)) : InS w noF sz A n cell := by
  intro hn
  rcases S.holds hi with ⟨_, h, _⟩ | ⟨b, cs, rfl, hb, _, _, _, hc⟩
  · omega
  · refine ⟨b, 0, rfl, lt_of_heap hb, fun h => h, fun k j hk hj => ?_⟩
    rw [← hc k j hk hj]
    have := cell_of_row w b (k * sz + j) cs e (0, 0) hb
    rw [Nat.zero_add]
    exact this

theorem ownM.le {i : Nat} (S : St w0 F0 R w) (hi : R[i]? = some (ownM e sz A n c cell)) : n ≤ c ∧ c ≤ maxLen := by
  rcases S.holds hi with ⟨_, rfl, rfl⟩ | ⟨b, cs, rfl, hb, h1, h2, _⟩
  · exact ⟨Nat.le_refl _, Nat.zero_le _⟩
  · exact ⟨h1, h2⟩

theorem boxM.rd {i b off : Nat} {t : TypeId} {cs : List Value} {v : Value} (S : St w0 F0 R w) (hi : R[i]? = some (boxM b t cs)) (hv : cs[off]? = some v) : w.cell? ⟨b, off, none⟩ = some v := by
  rw [cell_of_row w b off cs.toArray t (0, 0) (S.holds hi)]
  simpa using hv

theorem rowM.rd {i b off n : Nat} {t : TypeId} {f : Nat → Value} (S : St w0 F0 R w) (hi : R[i]? = some (rowM b t n f)) (ho : off < n) : w.cell? ⟨b, off, none⟩ = some (f off) := by
  obtain ⟨cs, hb, _, hc⟩ := S.holds hi
  rw [cell_of_row w b off cs t (0, 0) hb]
  exact hc off ho
end
end Go.Proofs.Ytlmddkekeoebcaa
