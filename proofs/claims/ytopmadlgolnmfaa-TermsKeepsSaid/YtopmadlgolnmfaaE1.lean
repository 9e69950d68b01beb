/- The engine of the walks: frames as lists of slots, memory as a list of owned blocks. Plain lemmas over any program; nothing of the seat's program is named here. Memory as a list of owned parts: which blocks each part takes, what it says, and that the parts lie apart. What single operations yield: those that read at the most. More operations: shifts, single bits, the division that rounds towards zero, sums that may wrap, a pointer that is checked. Statements: regions, tests, loops, returns; and the operations that turn the world. The operations that make or write memory. A store of a struct's cells into an element of an owned slice. Comparisons whose answer is known. -/
import Derived.WalkKit
import Derived.Deep.Quiet
import Derived.StillTail
import Derived.Deep.LoopGhost
import Derived.KernelRfl
import Derived.IntWalk
import Derived.Maps.AppendAt
import Derived.Laws.MakeOwn
namespace Go.Proofs.Ytopmadlgolnmfaa
set_option linter.unusedVariables false
set_option linter.unusedSimpArgs false
open Go.RowKit

/-! ## frames -/
def look : List (Nat × Value) → Nat → Option Value
  | [], _ => none
  | (t, v) :: L, i => bif Nat.beq t i then some v else look L i

def ev (L : List (Nat × Value)) : Operand → Option Value
  | .tmp t => look L t
  | .const v => some v
  | .global g => some (.pointer (some ⟨g, 0, none⟩))
  | .func f => some (.func (.func f) #[] #[])

def evs (L : List (Nat × Value)) : List Operand → Option (List Value)
  | [] => some []
  | x :: xs => match ev L x with
    | some v => match evs L xs with
      | some vs => some (v :: vs)
      | none => none
    | none => none

/-- How many slots a frame has, and its deferred calls. -/
structure FN where
  n : Nat
  ds : List Deferred

structure Fr (N : FN) (L : List (Nat × Value)) (a : Act) : Prop where
  size : a.tmps.size = N.n
  defs : a.defers = N.ds
  at_ : ∀ t v, look L t = some v → a.tmps[t]? = some v

section
variable {N : FN} {L L' : List (Nat × Value)} {a : Act} {P : Program}

theorem Fr.eval (H : Fr N L a) {x : Operand} {v : Value} (h : ev L x = some v) : a.eval x = v := by
  cases x with
  | tmp t => simp [Act.eval, H.at_ t v h]
  | const u => simp only [ev, Option.some.injEq] at h; exact h
  | global g => simp only [ev, Option.some.injEq] at h; exact h
  | func f => simp only [ev, Option.some.injEq] at h; exact h

theorem Fr.evals (H : Fr N L a) : ∀ {xs : List Operand} {vs : List Value}, evs L xs = some vs → xs.map a.eval = vs := by
  intro xs
  induction xs with
  | nil => intro vs h; simp only [evs, Option.some.injEq] at h; subst h; rfl
  | cons x xs ih =>
    intro vs h
    simp only [evs] at h
    split at h
    · rename_i v hv
      split at h
      · rename_i us hus
        simp only [Option.some.injEq] at h
        subst h
        simp only [List.map_cons, H.eval hv, ih hus]
      · cases h
    · cases h

theorem Fr.put (H : Fr N L a) {d : Nat} (v : Value) (hd : Nat.blt d N.n = true) : Fr N ((d, v) :: L) (a.put (some d) v) := by
  have hd' : d < N.n := by simpa using hd
  refine ⟨by simp [Act.put, H.size], H.defs, ?_⟩
  intro t u h
  simp only [look] at h
  by_cases e : d = t
  · subst e
    have hb : Nat.beq d d = true := Nat.beq_refl d
    rw [hb] at h
    simp only [cond_true, Option.some.injEq] at h
    subst h
    have : d < a.tmps.size := by rw [H.size]; exact hd'
    simp [Act.put, this]
  · have hb : Nat.beq d t = false := by
      cases hbb : Nat.beq d t
      · rfl
      · exact absurd (Nat.eq_of_beq_eq_true hbb) e
    rw [hb] at h
    simp only [Act.put]
    rw [Array.getElem?_setIfInBounds_ne e]
    exact H.at_ t u h

theorem Fr.put_none (H : Fr N L a) (v : Value) : Fr N L (a.put none v) := H

def Sub (M L : List (Nat × Value)) : Prop := ∀ t v, look M t = some v → look L t = some v

theorem Sub.nil : Sub [] L := fun _ _ h => by cases h
theorem Sub.cons {t : Nat} {v : Value} {M L : List (Nat × Value)} (h : look L t = some v) (r : Sub M L) : Sub ((t, v) :: M) L := by
  intro t' v' hv
  simp only [look] at hv
  cases hb : Nat.beq t t'
  · rw [hb] at hv; exact r t' v' hv
  · rw [hb] at hv
    simp only [cond_true, Option.some.injEq] at hv
    have := Nat.eq_of_beq_eq_true hb
    subst this; subst hv
    exact h

theorem Fr.to (H : Fr N L a) (h : Sub L' L) : Fr N L' a := ⟨H.size, H.defs, fun t v hv => H.at_ t v (h t v hv)⟩

def pick : List Nat → List (Nat × Value) → Option (List (Nat × Value))
  | [], _ => some []
  | k :: ks, L => match look L k with
    | some v => match pick ks L with
      | some r => some ((k, v) :: r)
      | none => none
    | none => none

theorem pick_sub : ∀ {ks : List Nat} {L'}, pick ks L = some L' → Sub L' L := by
  intro ks
  induction ks with
  | nil => intro L' h; simp only [pick, Option.some.injEq] at h; subst h; exact Sub.nil
  | cons k ks ih =>
    intro L' h
    simp only [pick] at h
    split at h
    · rename_i v hv
      split at h
      · rename_i r hr
        simp only [Option.some.injEq] at h
        subst h
        exact Sub.cons hv (ih hr)
      · cases h
    · cases h

theorem Fr.keep (H : Fr N L a) (ks : List Nat) (h : pick ks L = some L') : Fr N L' a := H.to (pick_sub h)

def number : Nat → List Value → List (Nat × Value)
  | _, [] => []
  | i, v :: vs => (i, v) :: number (i + 1) vs

theorem number_look : ∀ (vs : List Value) (i t : Nat) (v : Value), look (number i vs) t = some v → i ≤ t ∧ vs[t - i]? = some v := by
  intro vs
  induction vs with
  | nil => intro i t v h; cases h
  | cons u us ih =>
    intro i t v h
    simp only [number, look] at h
    cases hb : Nat.beq i t
    · rw [hb] at h
      obtain ⟨h1, h2⟩ := ih (i + 1) t v h
      refine ⟨by omega, ?_⟩
      have : t - i = (t - (i + 1)) + 1 := by omega
      rw [this]; simpa using h2
    · rw [hb] at h
      have := Nat.eq_of_beq_eq_true hb
      subst this
      simp only [cond_true, Option.some.injEq] at h
      subst h
      exact ⟨Nat.le_refl _, by simp⟩

theorem Fr.entry {fn : Func} {N : Nat} (vs : List Value) (hN : fn.ntmps = N) (hle : Nat.ble vs.length N = true) :
    Fr ⟨N, []⟩ (number 0 vs) { tmps := vs.toArray ++ Array.replicate (fn.ntmps - vs.toArray.size) undef, defers := [] } := by
  have hle' : vs.length ≤ N := by simpa using hle
  refine ⟨by simp [hN]; omega, rfl, ?_⟩
  intro t v h
  obtain ⟨_, h2⟩ := number_look vs 0 t v h
  simp only [Nat.sub_zero] at h2
  have hl : t < vs.length := by
    rcases Nat.lt_or_ge t vs.length with h | h
    · exact h
    · rw [List.getElem?_eq_none h] at h2; cases h2
  rw [List.getElem?_eq_getElem hl, Option.some.injEq] at h2
  simp [Array.getElem?_append, hl, h2]
end

/-! ## what a call gives -/
def Ret (R : Value → World → Prop) : Ending → World → Prop
  | .returned v, w => R v w
  | _, _ => False

theorem enter {P : Program} {f : FuncId} {fn : Func} {c : Code} {vs : List Value} {w : World} {R : Ending → World → Prop} {N : Nat}
    (hf : P.funcs[f]? = some fn) (hb : fn.body = some c) (hN : fn.ntmps = N) (hle : Nat.ble vs.length N = true)
    (k : ∀ a, Fr ⟨N, []⟩ (number 0 vs) a → c.wp P (bodyPost P fn R) a w) : Calls P f vs.toArray w R :=
  calls_of_wp hf hb (k _ (Fr.entry vs hN hle))

/-! ## one operation that reads at the most -/
def Does (P : Program) (L : List (Nat × Value)) (o : Oper) (w : World) (v : Value) : Prop :=
  ∀ ρ : Operand → Value, (∀ x u, ev L x = some u → ρ x = u) → (execOp ρ o).run P w = .ok (.value v) w

section
variable {P : Program} {ops : Array Oper} {w : World} {Q : Act → Prop} {rest : List Oper} {N : FN} {L L' : List (Nat × Value)} {a : Act} {ty : TypeId} {pos : String} {af : Array Edge} {op : Op}

theorem still_does {d : Nat} {v : Value} (H : Fr N L a) (hd : Nat.blt d N.n = true) (h : Does P L ⟨some d, op, ty, pos, af, none⟩ w v)
    (k : ∀ a', Fr N ((d, v) :: L) a' → wpStill P ops w Q rest a') : wpStill P ops w Q (⟨some d, op, ty, pos, af, none⟩ :: rest) a := by
  refine wpStill_step fun K hK => ?_
  simp only [Region.wanted, if_true]
  unfold Oper.still
  rw [h a.eval (fun x u hx => H.eval hx)]
  exact ⟨rfl, hK _ (k _ (H.put v hd))⟩

theorem still_yes {d : Option Nat} {i g : Nat} {b : Bool} (H : Fr N L a) (hg : (ops[i]?).bind (·.dst) = some g) (hb : look L g = some (.bool b))
    (k : wpStill P ops w Q (⟨d, op, ty, pos, af, none⟩ :: rest) a) : wpStill P ops w Q (⟨d, op, ty, pos, af, some (i, b)⟩ :: rest) a := by
  have hw : Region.wanted ⟨d, op, ty, pos, af, some (i, b)⟩ (yielded ops a.tmps) = true := by
    simp only [Region.wanted, yielded, hg, Option.bind_some]
    simp [H.at_ g _ hb]
  refine wpStill_step fun K hK => ?_
  rw [if_pos hw]
  simp only [wpStill, Region.wanted, if_true] at k
  exact Oper.still_mono hK k
end
end Go.Proofs.Ytopmadlgolnmfaa

namespace Go.Proofs.Ytopmadlgolnmfaa
set_option linter.unusedVariables false
set_option linter.unusedSimpArgs false
open Go.RowKit

structure Mem where
  fp : Nat → Prop
  holds : World → Prop
  stable : ∀ w w' : World, (∀ k, fp k → w'.heap[k]? = w.heap[k]?) → holds w → holds w'

def noF : Nat → Prop := fun _ => False

structure St (w0 : World) (F0 : Nat → Prop) (R : List Mem) (w : World) : Prop where
  os : w.os = w0.os
  tape : w.tape = w0.tape
  out : w.output = w0.output
  size : w0.heap.size ≤ w.heap.size
  ro : ∀ k, k < w0.heap.size → ¬ F0 k → w.heap[k]? = w0.heap[k]?
  res : ∀ m ∈ R, m.holds w
  inn : ∀ m ∈ R, ∀ k, m.fp k → k < w.heap.size ∧ (k < w0.heap.size → F0 k)
  disj : ∀ (i j : Nat) (m m' : Mem), R[i]? = some m → R[j]? = some m' → i ≠ j → ∀ k, m.fp k → ¬ m'.fp k

theorem lt_of_heap {w : World} {k : Nat} {o : Obj} (h : w.heap[k]? = some o) : k < w.heap.size := (Array.getElem?_eq_some_iff.1 h).1

section
variable {w0 w w' w1 : World} {F0 F : Nat → Prop} {R R' : List Mem} {m m' : Mem}

theorem St.start (w : World) : St w noF [] w :=
  ⟨rfl, rfl, rfl, Nat.le_refl _, fun _ _ _ => rfl, fun _ h => by simp at h, fun _ h => by simp at h, fun i j m m' h => by simp at h⟩

/-- The blocks of a list of parts. -/
def fps (R : List Mem) : Nat → Prop := fun k => ∃ m ∈ R, m.fp k

theorem St.startR (S : St w0 F0 R w) : St w (fps R) R w :=
  ⟨rfl, rfl, rfl, Nat.le_refl _, fun _ _ _ => rfl, S.res, fun m h k hk => ⟨(S.inn m h k hk).1, fun _ => ⟨m, h, hk⟩⟩, S.disj⟩

theorem St.holds (S : St w0 F0 R w) {i : Nat} (hi : R[i]? = some m) : m.holds w := S.res m (List.mem_of_getElem? hi)

theorem St.drew (S : St w0 F0 R w) : St w0 F0 R w.drew :=
  ⟨S.os, S.tape, S.out, S.size, S.ro, fun m h => m.stable w _ (fun _ _ => rfl) (S.res m h), S.inn, S.disj⟩

/-- How two worlds agree outside some blocks. -/
structure Keeps (w w' : World) (F : Nat → Prop) : Prop where
  os : w'.os = w.os
  tape : w'.tape = w.tape
  out : w'.output = w.output
  size : w.heap.size ≤ w'.heap.size
  kept : ∀ k, k < w.heap.size → ¬ F k → w'.heap[k]? = w.heap[k]?

theorem Keeps.refl (w : World) (F : Nat → Prop) : Keeps w w F := ⟨rfl, rfl, rfl, Nat.le_refl _, fun _ _ _ => rfl⟩
theorem Keeps.drew (w : World) (F : Nat → Prop) : Keeps w w.drew F := ⟨rfl, rfl, rfl, Nat.le_refl _, fun _ _ _ => rfl⟩
theorem Keeps.alloc (w : World) (o : Obj) (F : Nat → Prop) : Keeps w (w.alloc o) F := ⟨rfl, rfl, rfl, by simp, fun k hk _ => Below.heap_alloc w o k hk⟩
theorem Keeps.trans {F : Nat → Prop} (h : Keeps w w' F) (k : Keeps w' w1 F) : Keeps w w1 F :=
  ⟨k.os.trans h.os, k.tape.trans h.tape, k.out.trans h.out, Nat.le_trans h.size k.size, fun i hi hf => (k.kept i (Nat.lt_of_lt_of_le hi h.size) hf).trans (h.kept i hi hf)⟩
theorem Keeps.of_grown {row : Option Nat} (h : w.grownBy w' row) : Keeps w w' (fun k => row = some k) :=
  ⟨h.os, h.tape, h.output, h.size, fun k hk hf => h.block k hk (fun e => hf e.symm)⟩
theorem Keeps.mono {F F' : Nat → Prop} (h : Keeps w w' F) (hF : ∀ k, F k → F' k) : Keeps w w' F' :=
  ⟨h.os, h.tape, h.out, h.size, fun k hk hf => h.kept k hk (fun e => hf (hF k e))⟩

/-- A new part in new blocks. -/
theorem St.new (S : St w0 F0 R w) (K : Keeps w w' noF) (hm : m'.holds w') (hf : ∀ k, m'.fp k → w.heap.size ≤ k ∧ k < w'.heap.size) : St w0 F0 (m' :: R) w' := by
  refine ⟨K.os.trans S.os, K.tape.trans S.tape, K.out.trans S.out, Nat.le_trans S.size K.size,
    fun k hk hf => (K.kept k (Nat.lt_of_lt_of_le hk S.size) (fun h => h)).trans (S.ro k hk hf), ?_, ?_, ?_⟩
  · intro m h
    rcases List.mem_cons.1 h with rfl | h
    · exact hm
    · exact m.stable w w' (fun k hk => K.kept k (S.inn m h k hk).1 (fun h => h)) (S.res m h)
  · intro m h k hk
    rcases List.mem_cons.1 h with rfl | h
    · exact ⟨(hf k hk).2, fun hlt => by have := (hf k hk).1; have := S.size; omega⟩
    · exact ⟨Nat.lt_of_lt_of_le (S.inn m h k hk).1 K.size, (S.inn m h k hk).2⟩
  · intro i j a b hi hj hij k hk hk'
    cases i with
    | zero =>
      cases j with
      | zero => exact hij rfl
      | succ j =>
        simp at hi hj; subst hi
        have := (hf k hk).1
        have := (S.inn b (List.mem_of_getElem? hj) k hk').1
        omega
    | succ i =>
      cases j with
      | zero =>
        simp at hi hj; subst hj
        have := (hf k hk').1
        have := (S.inn a (List.mem_of_getElem? hi) k hk).1
        omega
      | succ j =>
        simp at hi hj
        exact S.disj i j a b hi hj (by omega) k hk hk'

theorem get_set {α : Type} {R : List α} {i j : Nat} {m m' x : α} (hi : R[i]? = some m) (h : (R.set i m')[j]? = some x) : (j = i ∧ x = m') ∨ (j ≠ i ∧ R[j]? = some x) := by
  rw [List.getElem?_set] at h
  by_cases e : i = j
  · subst e
    have hil : i < R.length := by
      rcases Nat.lt_or_ge i R.length with h | h
      · exact h
      · rw [List.getElem?_eq_none h] at hi; cases hi
    rw [if_pos rfl, if_pos hil, Option.some.injEq] at h
    exact .inl ⟨rfl, h.symm⟩
  · rw [if_neg e] at h
    exact .inr ⟨fun h => e h.symm, h⟩

/-- A part that is written. -/
theorem St.upd (S : St w0 F0 R w) {i : Nat} (hi : R[i]? = some m) (K : Keeps w w' m.fp) (hm : m'.holds w')
    (hf : ∀ k, m'.fp k → m.fp k ∨ (w.heap.size ≤ k ∧ k < w'.heap.size)) : St w0 F0 (R.set i m') w' := by
  have hmR : m ∈ R := List.mem_of_getElem? hi
  refine ⟨K.os.trans S.os, K.tape.trans S.tape, K.out.trans S.out, Nat.le_trans S.size K.size, ?_, ?_, ?_, ?_⟩
  · intro k hk hF
    refine (K.kept k (Nat.lt_of_lt_of_le hk S.size) (fun hmk => hF ((S.inn m hmR k hmk).2 hk))).trans (S.ro k hk hF)
  · intro x hx
    obtain ⟨j, hj⟩ := List.getElem?_of_mem hx
    rcases get_set hi hj with ⟨_, rfl⟩ | ⟨hji, hxj⟩
    · exact hm
    · exact x.stable w w' (fun k hk => K.kept k (S.inn x (List.mem_of_getElem? hxj) k hk).1 (fun h => S.disj j i x m hxj hi hji k hk h)) (S.res x (List.mem_of_getElem? hxj))
  · intro x hx k hk
    obtain ⟨j, hj⟩ := List.getElem?_of_mem hx
    rcases get_set hi hj with ⟨_, rfl⟩ | ⟨hji, hxj⟩
    · rcases hf k hk with h | h
      · exact ⟨Nat.lt_of_lt_of_le (S.inn m hmR k h).1 K.size, (S.inn m hmR k h).2⟩
      · exact ⟨h.2, fun hlt => by have := S.size; omega⟩
    · have := S.inn x (List.mem_of_getElem? hxj) k hk
      exact ⟨Nat.lt_of_lt_of_le this.1 K.size, this.2⟩
  · intro a b x y ha hb hab k hk hk'
    rcases get_set hi ha with ⟨ea, rfl⟩ | ⟨hai, hxa⟩ <;> rcases get_set hi hb with ⟨eb, rfl⟩ | ⟨hbi, hyb⟩
    · omega
    · rcases hf k hk with h | h
      · exact S.disj i b m y hi hyb (fun e => hbi e.symm) k h hk'
      · have := (S.inn y (List.mem_of_getElem? hyb) k hk').1; omega
    · rcases hf k hk' with h | h
      · exact S.disj a i x m hxa hi hai k hk h
      · have := (S.inn x (List.mem_of_getElem? hxa) k hk).1; omega
    · exact S.disj a b x y hxa hyb hab k hk hk'

theorem St.updSame (S : St w0 F0 R w) {i : Nat} (hi : R[i]? = some m) (K : Keeps w w' m.fp) (hm : m'.holds w') (hf : ∀ k, m'.fp k → m.fp k) : St w0 F0 (R.set i m') w' :=
  S.upd hi K hm fun k hk => .inl (hf k hk)

/-- The same memory, said otherwise. -/
theorem St.imp (S : St w0 F0 R w) {i : Nat} (hi : R[i]? = some m) (hm : m.holds w → m'.holds w) (hf : ∀ k, m'.fp k → m.fp k) : St w0 F0 (R.set i m') w :=
  S.updSame hi (Keeps.refl _ _) (hm (S.holds hi)) hf

/-- Parts left out or in another order: by their numbers. -/
def sel : List Nat → List Mem → Option (List Mem)
  | [], _ => some []
  | k :: ks, R => match R[k]? with
    | some m => match sel ks R with
      | some r => some (m :: r)
      | none => none
    | none => none

theorem sel_get : ∀ {ks : List Nat} {R R' : List Mem}, sel ks R = some R' → ∀ (i : Nat) (m : Mem), R'[i]? = some m → ∃ k, ks[i]? = some k ∧ R[k]? = some m := by
  intro ks
  induction ks with
  | nil => intro R R' h i m hi; simp only [sel, Option.some.injEq] at h; subst h; simp at hi
  | cons k ks ih =>
    intro R R' h i m hi
    simp only [sel] at h
    split at h
    · rename_i m0 hm0
      split at h
      · rename_i r hr
        simp only [Option.some.injEq] at h
        subst h
        cases i with
        | zero => simp at hi; subst hi; exact ⟨k, by simp, hm0⟩
        | succ i =>
          simp at hi
          obtain ⟨q, h1, h2⟩ := ih hr i m hi
          exact ⟨q, by simpa using h1, h2⟩
      · cases h
    · cases h

def distinct : List Nat → Bool
  | [] => true
  | k :: ks => (ks.all fun j => !Nat.beq k j) && distinct ks

theorem distinct_get : ∀ {ks : List Nat}, distinct ks = true → ∀ (i j k : Nat), ks[i]? = some k → ks[j]? = some k → i = j := by
  intro ks
  induction ks with
  | nil => intro _ i j k hi; simp at hi
  | cons q ks ih =>
    intro h i j k hi hj
    simp only [distinct, Bool.and_eq_true, List.all_eq_true] at h
    cases i with
    | zero =>
      simp at hi; subst hi
      cases j with
      | zero => rfl
      | succ j =>
        simp at hj
        have := h.1 q (List.mem_of_getElem? hj)
        simp at this
    | succ i =>
      simp at hi
      cases j with
      | zero =>
        simp at hj; subst hj
        have := h.1 q (List.mem_of_getElem? hi)
        simp at this
      | succ j =>
        simp at hj
        exact congrArg (· + 1) (ih h.2 i j k hi hj)

theorem St.sel (S : St w0 F0 R w) (ks : List Nat) (h : Go.Proofs.Ytopmadlgolnmfaa.sel ks R = some R') (hd : distinct ks = true) : St w0 F0 R' w := by
  refine ⟨S.os, S.tape, S.out, S.size, S.ro, ?_, ?_, ?_⟩
  · intro m hm
    obtain ⟨i, hi⟩ := List.getElem?_of_mem hm
    obtain ⟨k, _, hk⟩ := sel_get h i m hi
    exact S.res m (List.mem_of_getElem? hk)
  · intro m hm
    obtain ⟨i, hi⟩ := List.getElem?_of_mem hm
    obtain ⟨k, _, hk⟩ := sel_get h i m hi
    exact S.inn m (List.mem_of_getElem? hk)
  · intro i j a b hi hj hij
    obtain ⟨k, hk, hk'⟩ := sel_get h i a hi
    obtain ⟨q, hq, hq'⟩ := sel_get h j b hj
    exact S.disj k q a b hk' hq' (fun e => hij (distinct_get hd i j k hk (e ▸ hq)))

/-- Behind a call that wrote some parts. -/
theorem St.callR {M : List Mem} (S : St w0 F0 (M ++ R) w) (S' : St w (fps M) R' w') : St w0 F0 (R' ++ R) w' := by
  have hR : ∀ x ∈ R, ∀ k, x.fp k → ¬ fps M k := by
    intro x hx k hk ⟨m, hm, hmk⟩
    obtain ⟨i, hi⟩ := List.getElem?_of_mem hx
    obtain ⟨j, hj⟩ := List.getElem?_of_mem hm
    have hjl : j < M.length := by
      rcases Nat.lt_or_ge j M.length with h | h
      · exact h
      · rw [List.getElem?_eq_none h] at hj; cases hj
    refine S.disj j (M.length + i) m x (by rw [List.getElem?_append_left hjl]; exact hj) (by rw [List.getElem?_append_right (by omega)]; simpa using hi) (by omega) k hmk hk
  refine ⟨S'.os.trans S.os, S'.tape.trans S.tape, S'.out.trans S.out, Nat.le_trans S.size S'.size, ?_, ?_, ?_, ?_⟩
  · intro k hk hF
    refine (S'.ro k (Nat.lt_of_lt_of_le hk S.size) ?_).trans (S.ro k hk hF)
    rintro ⟨m, hm, hmk⟩
    exact hF ((S.inn m (List.mem_append_left _ hm) k hmk).2 hk)
  · intro x hx
    rcases List.mem_append.1 hx with hx | hx
    · exact S'.res x hx
    · exact x.stable w w' (fun k hk => S'.ro k (S.inn x (List.mem_append_right _ hx) k hk).1 (hR x hx k hk)) (S.res x (List.mem_append_right _ hx))
  · intro x hx k hk
    rcases List.mem_append.1 hx with hx | hx
    · refine ⟨(S'.inn x hx k hk).1, fun hlt => ?_⟩
      obtain ⟨m, hm, hmk⟩ := (S'.inn x hx k hk).2 (Nat.lt_of_lt_of_le hlt S.size)
      exact (S.inn m (List.mem_append_left _ hm) k hmk).2 hlt
    · have := S.inn x (List.mem_append_right _ hx) k hk
      exact ⟨Nat.lt_of_lt_of_le this.1 S'.size, this.2⟩
  · intro i j a b hi hj hij k hk hk'
    rw [List.getElem?_append] at hi hj
    split at hi <;> split at hj
    · exact S'.disj i j a b hi hj hij k hk hk'
    · have hb := List.mem_of_getElem? hj
      have hlt := (S.inn b (List.mem_append_right _ hb) k hk').1
      exact hR b hb k hk' ((S'.inn a (List.mem_of_getElem? hi) k hk).2 hlt)
    · have ha := List.mem_of_getElem? hi
      have hlt := (S.inn a (List.mem_append_right _ ha) k hk).1
      exact hR a ha k hk ((S'.inn b (List.mem_of_getElem? hj) k hk').2 hlt)
    · rename_i h1 h2
      refine S.disj (M.length + (i - R'.length)) (M.length + (j - R'.length)) a b ?_ ?_ (by omega) k hk hk'
      · rw [List.getElem?_append_right (by omega)]; simpa using hi
      · rw [List.getElem?_append_right (by omega)]; simpa using hj

/-- Behind a call that wrote nothing of what was there. -/
theorem St.call (S : St w0 F0 R w) (S' : St w noF R' w') : St w0 F0 (R' ++ R) w' := by
  refine St.callR (M := []) S ⟨S'.os, S'.tape, S'.out, S'.size, fun k hk _ => S'.ro k hk (fun h => h), S'.res, fun m hm k hk => ?_, S'.disj⟩
  have := S'.inn m hm k hk
  exact ⟨this.1, fun h => (this.2 h).elim⟩

end

/-! ## the kinds of parts -/
/-- One block whose cells are known. -/
def boxM (b : Nat) (t : TypeId) (cs : List Value) : Mem where
  fp := fun k => k = b
  holds := fun w => w.heap[b]? = some (.cells cs.toArray t (0, 0))
  stable := fun _ _ h h' => (h b rfl).trans h'

/-- One block with n cells at least, whose first n cells are known by their number. -/
def rowM (b : Nat) (t : TypeId) (n : Nat) (f : Nat → Value) : Mem where
  fp := fun k => k = b
  holds := fun w => ∃ cs : Array Value, w.heap[b]? = some (.cells cs t (0, 0)) ∧ n ≤ cs.size ∧ ∀ i, i < n → cs[i]? = some (f i)
  stable := fun _ _ h ⟨cs, h1, h2⟩ => ⟨cs, (h b rfl).trans h1, h2⟩

def adr (A : Option Addr) : Addr := A.getD ⟨0, 0, none⟩
/-- Cell j of element k of a slice. -/
def pt (A : Option Addr) (sz k j : Nat) : Addr := ⟨(adr A).block, (adr A).off + k * sz + j, none⟩

/-- A slice's own row: A, n, c are its address, length and capacity. -/
def ownM (e : TypeId) (sz : Nat) (A : Option Addr) (n c : Nat) (cell : Nat → Nat → Value) : Mem where
  fp := fun k => ∃ a, A = some a ∧ a.block = k
  holds := fun w => (A = none ∧ n = 0 ∧ c = 0) ∨ ∃ (b : Nat) (cs : Array Value), A = some ⟨b, 0, none⟩ ∧ w.heap[b]? = some (.cells cs e (0, 0)) ∧ n ≤ c ∧ c ≤ maxLen ∧ cs.size = c * sz ∧
    ∀ k j, k < n → j < sz → cs[k * sz + j]? = some (cell k j)
  stable := fun _ _ h h' => by
    rcases h' with h' | ⟨b, cs, hA, hb, h'⟩
    · exact .inl h'
    · exact .inr ⟨b, cs, hA, (h b ⟨_, hA, rfl⟩).trans hb, h'⟩

/-- A slice that is only read. -/
def InS (w : World) (F : Nat → Prop) (sz : Nat) (A : Option Addr) (n : Nat) (cell : Nat → Nat → Value) : Prop :=
  0 < n → ∃ b o, A = some ⟨b, o, none⟩ ∧ b < w.heap.size ∧ ¬ F b ∧ ∀ k j, k < n → j < sz → w.cell? ⟨b, o + k * sz + j, none⟩ = some (cell k j)

section
variable {w0 w w' : World} {F0 F : Nat → Prop} {R : List Mem} {sz n c : Nat} {A : Option Addr} {cell : Nat → Nat → Value} {e : TypeId}

theorem InS.rd (h : InS w0 F0 sz A n cell) (S : St w0 F0 R w) {k j : Nat} (hk : k < n) (hj : j < sz) : w.cell? (pt A sz k j) = some (cell k j) := by
  obtain ⟨b, o, rfl, hb, hF, hc⟩ := h (by omega)
  have := hc k j hk hj
  rw [← this]
  exact World.cell?_of_block (w := w0) (S.ro b hb hF)

theorem InS.adr (h : InS w0 F0 sz A n cell) (hn : 0 < n) : A = some ⟨(adr A).block, (adr A).off, none⟩ := by
  obtain ⟨b, o, rfl, _⟩ := h hn
  rfl

/-- As it reads now, for a callee. -/
theorem InS.now (h : InS w0 F0 sz A n cell) (S : St w0 F0 R w) : InS w noF sz A n cell := by
  intro hn
  obtain ⟨b, o, rfl, hb, hF, hc⟩ := h hn
  refine ⟨b, o, rfl, Nat.lt_of_lt_of_le hb S.size, fun h => h, fun k j hk hj => ?_⟩
  rw [← hc k j hk hj]
  exact World.cell?_of_block (w := w0) (S.ro b hb hF)

theorem ownM.rd {i k j : Nat} (S : St w0 F0 R w) (hi : R[i]? = some (ownM e sz A n c cell)) (hk : k < n) (hj : j < sz) : w.cell? (pt A sz k j) = some (cell k j) := by
  rcases S.holds hi with ⟨_, h, _⟩ | ⟨b, cs, rfl, hb, _, _, _, hc⟩
  · omega
  · rw [← hc k j hk hj]
    have : pt (some ⟨b, 0, none⟩) sz k j = ⟨b, k * sz + j, none⟩ := by simp [pt, Go.Proofs.Ytopmadlgolnmfaa.adr]
    rw [this]
    exact cell_of_row w b _ cs e (0, 0) hb

theorem ownM.adr {i : Nat} (S : St w0 F0 R w) (hi : R[i]? = some (ownM e sz A n c cell)) (hn : 0 < n) : A = some ⟨(adr A).block, (adr A).off, none⟩ := by
  rcases S.holds hi with ⟨_, h, _⟩ | ⟨b, cs, rfl, _⟩
  · omega
  · rfl

theorem ownM.inS {i : Nat} (S : St w0 F0 R w) (hi : R[i]? = some (ownM e sz A n c cell)) : InS w noF sz A n cell := by
  intro hn
  rcases S.holds hi with ⟨_, h, _⟩ | ⟨b, cs, rfl, hb, _, _, _, hc⟩
  · omega
  · refine ⟨b, 0, rfl, lt_of_heap hb, fun h => h, fun k j hk hj => ?_⟩
    rw [← hc k j hk hj]
    have := cell_of_row w b (k * sz + j) cs e (0, 0) hb
    rw [Nat.zero_add]
    exact this

theorem ownM.le {i : Nat} (S : St w0 F0 R w) (hi : R[i]? = some (ownM e sz A n c cell)) : n ≤ c ∧ c ≤ maxLen := by
  rcases S.holds hi with ⟨_, rfl, rfl⟩ | ⟨b, cs, rfl, hb, h1, h2, _⟩
  · exact ⟨Nat.le_refl _, Nat.zero_le _⟩
  · exact ⟨h1, h2⟩

theorem boxM.rd {i b off : Nat} {t : TypeId} {cs : List Value} {v : Value} (S : St w0 F0 R w) (hi : R[i]? = some (boxM b t cs)) (hv : cs[off]? = some v) : w.cell? ⟨b, off, none⟩ = some v := by
  rw [cell_of_row w b off cs.toArray t (0, 0) (S.holds hi)]
  simpa using hv

theorem rowM.rd {i b off n : Nat} {t : TypeId} {f : Nat → Value} (S : St w0 F0 R w) (hi : R[i]? = some (rowM b t n f)) (ho : off < n) : w.cell? ⟨b, off, none⟩ = some (f off) := by
  obtain ⟨cs, hb, _, hc⟩ := S.holds hi
  rw [cell_of_row w b off cs t (0, 0) hb]
  exact hc off ho
end
end Go.Proofs.Ytopmadlgolnmfaa

namespace Go.Proofs.Ytopmadlgolnmfaa
set_option linter.unusedVariables false
set_option linter.unusedSimpArgs false
open Go.RowKit

/-! ## facts on types -/
def Sz (P : Program) (t n : Nat) : Prop := (P.info? t).map (·.size) = some n
def SlT (P : Program) (t e : Nat) : Prop := P.underlying t = some (.slice e)
def FOff (P : Program) (t f off : Nat) : Prop := ∃ fs fd, P.underlying t = some (.struct fs) ∧ fs[f]? = some fd ∧ fd.offset = off ∧ (match (P.info? fd.type).map (·.size) with | some n => Nat.blt 0 n | none => false) = true
def isRowB (d : Option TypeDesc) : Option Bool := match d with
  | some (.struct _) => some true
  | some (.array _ _) => some true
  | some _ => some false
  | none => none
def One (P : Program) (t : Nat) : Prop := isRowB (P.underlying t) = some false
def Agg (P : Program) (t : Nat) : Prop := isRowB (P.underlying t) = some true

section
variable {P : Program} {w : World}

theorem run_und {t : TypeId} {d : TypeDesc} (h : P.underlying t = some d) : (underlying t).run P w = .ok d w := run_underlying h w

theorem Sz.run {t n : Nat} (h : Sz P t n) : (sizeOf t).run P w = .ok n w := by
  unfold Sz at h
  cases hi : P.info? t with
  | none => rw [hi] at h; simp at h
  | some i => rw [hi] at h; simp at h; simp [sizeOf, typeInfo, hi, h]

theorem One.run {t : Nat} (h : One P t) : (isAgg t).run P w = .ok false w := by
  unfold One at h
  cases hu : P.underlying t with
  | none => rw [hu] at h; simp [isRowB] at h
  | some d =>
    rw [hu] at h
    cases d <;> simp [isRowB] at h <;> simp [isAgg, run_und hu]

theorem Agg.run {t : Nat} (h : Agg P t) : (isAgg t).run P w = .ok true w := by
  unfold Agg at h
  cases hu : P.underlying t with
  | none => rw [hu] at h; simp [isRowB] at h
  | some d =>
    rw [hu] at h
    cases d <;> simp [isRowB] at h <;> simp [isAgg, run_und hu]

theorem run_load1 {t : Nat} {a : Addr} {v : Value} (h1 : One P t) (h : w.cell? a = some v) : (Instr.loadAt t (.pointer (some a))).run P w = .ok v w := by
  simp [Instr.loadAt, Instr.sureAddr, loadVar, h1.run, load, Sem.run, h]

theorem add_lit (b o n : Nat) : (⟨b, o, none⟩ : Addr).add n = ⟨b, o + n, none⟩ := by
  unfold Addr.add; split <;> simp_all

theorem run_loadAgg {t : Nat} {b o : Nat} {vs : List Value} (h1 : Agg P t) (hs : Sz P t vs.length) (h : ∀ (j : Nat) v, vs[j]? = some v → w.cell? ⟨b, o + j, none⟩ = some v) :
    (Instr.loadAt t (.pointer (some ⟨b, o, none⟩))).run P w = .ok (.agg vs.toArray) w := by
  have hl := run_loadCells_list (P := P) w ⟨b, o, none⟩ vs (fun j v hv => by rw [add_lit]; exact h j v hv)
  simp [Instr.loadAt, Instr.sureAddr, loadVar, h1.run, hs.run, hl]

theorem run_fieldAt {t f off b o : Nat} (h : FOff P t f off) : (Instr.fieldAt t (.pointer (some ⟨b, o, none⟩)) f).run P w = .ok (.pointer (some ⟨b, o + off, none⟩)) w := by
  obtain ⟨fs, fd, hu, hf, rfl, hn⟩ := h
  cases hi : P.info? fd.type with
  | none => rw [hi] at hn; simp at hn
  | some i =>
    rw [hi] at hn
    simp at hn
    have hne : i.size ≠ 0 := by omega
    simp [Instr.fieldAt, run_und hu, hf, Instr.sureAddr, fieldPlace, sizeOf, typeInfo, hi, hne, add_lit]
end

section
variable {P : Program} {L : List (Nat × Value)} {w : World} {ty : TypeId} {pos : String} {af : Array Edge} {d : Option Nat} {g : Option (Nat × Bool)}

theorem does_move {x : Operand} {v : Value} (h : ev L x = some v) : Does P L ⟨d, .move x, ty, pos, af, g⟩ w v := fun ρ hρ => by
  simp [execOp, hρ x v h]
theorem does_assign {x : Operand} {v : Value} (h : ev L x = some v) : Does P L ⟨d, .assign x, ty, pos, af, g⟩ w v := fun ρ hρ => by
  simp [execOp, hρ x v h]
theorem does_pick {c x y : Operand} {b : Bool} {u v : Value} (hc : ev L c = some (.bool b)) (hx : ev L x = some u) (hy : ev L y = some v) : Does P L ⟨d, .pick c x y, ty, pos, af, g⟩ w (bif b then u else v) := fun ρ hρ => by
  simp only [execOp, hρ _ _ hc, hρ _ _ hx, hρ _ _ hy]
  cases b <;> simp [asBool]
def i64ok (n : Int) : Prop := -9223372036854775808 ≤ n ∧ n ≤ 9223372036854775807
theorem i64ok.eq {n : Int} (h : i64ok n) : IntKind.i64.wrap n = n := IntWalk.i64_in _ h

theorem does_add {x y : Operand} {xt yt : TypeId} {m n : Int} (hx : ev L x = some (.int .i64 m)) (hy : ev L y = some (.int .i64 n)) (h : i64ok (m + n)) :
    Does P L ⟨d, .binOp .add xt x y yt, ty, pos, af, g⟩ w (.int .i64 (m + n)) := fun ρ hρ => by
  simp [execOp, hρ _ _ hx, hρ _ _ hy, eqGuard, binOp, Op.intArith, h.eq]
theorem does_sub {x y : Operand} {xt yt : TypeId} {m n : Int} (hx : ev L x = some (.int .i64 m)) (hy : ev L y = some (.int .i64 n)) (h : i64ok (m - n)) :
    Does P L ⟨d, .binOp .sub xt x y yt, ty, pos, af, g⟩ w (.int .i64 (m - n)) := fun ρ hρ => by
  simp [execOp, hρ _ _ hx, hρ _ _ hy, eqGuard, binOp, Op.intArith, h.eq]
theorem does_mul {x y : Operand} {xt yt : TypeId} {m n : Int} (hx : ev L x = some (.int .i64 m)) (hy : ev L y = some (.int .i64 n)) (h : i64ok (m * n)) :
    Does P L ⟨d, .binOp .mul xt x y yt, ty, pos, af, g⟩ w (.int .i64 (m * n)) := fun ρ hρ => by
  simp [execOp, hρ _ _ hx, hρ _ _ hy, eqGuard, binOp, Op.intArith, h.eq]
theorem does_lss {x y : Operand} {xt yt : TypeId} {k : IntKind} {m n : Int} (hx : ev L x = some (.int k m)) (hy : ev L y = some (.int k n)) :
    Does P L ⟨d, .binOp .lss xt x y yt, ty, pos, af, g⟩ w (.bool (decide (m < n))) := fun ρ hρ => by
  simp [execOp, hρ _ _ hx, hρ _ _ hy, eqGuard, binOp, Op.intCmp]
theorem does_leq {x y : Operand} {xt yt : TypeId} {k : IntKind} {m n : Int} (hx : ev L x = some (.int k m)) (hy : ev L y = some (.int k n)) :
    Does P L ⟨d, .binOp .leq xt x y yt, ty, pos, af, g⟩ w (.bool (decide (m ≤ n))) := fun ρ hρ => by
  simp [execOp, hρ _ _ hx, hρ _ _ hy, eqGuard, binOp, Op.intCmp]
theorem does_gtr {x y : Operand} {xt yt : TypeId} {k : IntKind} {m n : Int} (hx : ev L x = some (.int k m)) (hy : ev L y = some (.int k n)) :
    Does P L ⟨d, .binOp .gtr xt x y yt, ty, pos, af, g⟩ w (.bool (decide (n < m))) := fun ρ hρ => by
  simp [execOp, hρ _ _ hx, hρ _ _ hy, eqGuard, binOp, Op.intCmp]
theorem does_geq {x y : Operand} {xt yt : TypeId} {k : IntKind} {m n : Int} (hx : ev L x = some (.int k m)) (hy : ev L y = some (.int k n)) :
    Does P L ⟨d, .binOp .geq xt x y yt, ty, pos, af, g⟩ w (.bool (decide (n ≤ m))) := fun ρ hρ => by
  simp [execOp, hρ _ _ hx, hρ _ _ hy, eqGuard, binOp, Op.intCmp]
theorem does_eql {x y : Operand} {xt yt : TypeId} {k : IntKind} {m n : Int} (hx : ev L x = some (.int k m)) (hy : ev L y = some (.int k n)) :
    Does P L ⟨d, .binOp .eql xt x y yt, ty, pos, af, g⟩ w (.bool (decide (m = n))) := fun ρ hρ => by
  simp [execOp, hρ _ _ hx, hρ _ _ hy, eqGuard, binOp, Op.intCmp]
  exact Bool.eq_iff_iff.2 (by simp)
theorem does_neq {x y : Operand} {xt yt : TypeId} {k : IntKind} {m n : Int} (hx : ev L x = some (.int k m)) (hy : ev L y = some (.int k n)) :
    Does P L ⟨d, .binOp .neq xt x y yt, ty, pos, af, g⟩ w (.bool (!decide (m = n))) := fun ρ hρ => by
  simp [execOp, hρ _ _ hx, hρ _ _ hy, eqGuard, binOp, Op.intCmp]
  exact Bool.eq_iff_iff.2 (by simp)
theorem run_eqlb {xt : TypeId} (hu : P.underlying xt = some .bool) (d : Nat) (m n : Bool) : (Op.equalIn (d + 1) xt (.bool m) (.bool n)).run P w = .ok (m == n) w := by
  simp [Op.equalIn, run_und hu]
theorem run_binb {xt : TypeId} (hu : P.underlying xt = some .bool) (m n : Bool) : (binOp .eql xt (.bool m) (.bool n)).run P w = .ok (.bool (m == n)) w := by
  simp only [binOp]
  simp [Op.equal, Op.maxDepth, run_eqlb hu 9999 m n]
theorem eqG_b (op : BinOp) (t : TypeId) (x y : Operand) (m n : Bool) : (eqGuard op t x y (.bool m) (.bool n)).run P w = .ok () w := by
  unfold eqGuard; split <;> simp
/-- '==' between two bools. -/
theorem does_eqlb {x y : Operand} {xt yt : TypeId} {m n : Bool} (hu : P.underlying xt = some .bool) (hx : ev L x = some (.bool m)) (hy : ev L y = some (.bool n)) :
    Does P L ⟨d, .binOp .eql xt x y yt, ty, pos, af, g⟩ w (.bool (m == n)) := fun ρ hρ => by
  simp only [execOp, hρ _ _ hx, hρ _ _ hy]
  simp [eqG_b, run_binb hu]
theorem does_not {x : Operand} {xt : TypeId} {b : Bool} (hx : ev L x = some (.bool b)) : Does P L ⟨d, .unOp .not xt x, ty, pos, af, g⟩ w (.bool (!b)) := fun ρ hρ => by
  simp [execOp, hρ _ _ hx, Op.unary]
theorem does_neg {x : Operand} {xt : TypeId} {n : Int} (hx : ev L x = some (.int .i64 n)) (h : i64ok (-n)) : Does P L ⟨d, .unOp .neg xt x, ty, pos, af, g⟩ w (.int .i64 (-n)) := fun ρ hρ => by
  have := h.eq
  simp [execOp, hρ _ _ hx, Op.unary, Op.intArith]
  exact this
theorem does_field {x : Operand} {t f off b o : Nat} (h : FOff P t f off) (hx : ev L x = some (.pointer (some ⟨b, o, none⟩))) : Does P L ⟨d, .fieldAddr t x f, ty, pos, af, g⟩ w (.pointer (some ⟨b, o + off, none⟩)) := fun ρ hρ => by
  simp [execOp, hρ _ _ hx, run_fieldAt h]
theorem does_field_pt {x : Operand} {t f off sz k j : Nat} {A : Option Addr} (h : FOff P t f off) (hx : ev L x = some (.pointer (some (pt A sz k j)))) : Does P L ⟨d, .fieldAddr t x f, ty, pos, af, g⟩ w (.pointer (some (pt A sz k (j + off)))) :=
  (by have := does_field (P := P) (L := L) (w := w) (ty := ty) (pos := pos) (af := af) (d := d) (g := g) h hx; rw [Nat.add_assoc] at this; exact this)
theorem does_load {x : Operand} {t : Nat} {a : Addr} {v : Value} (h1 : One P t) (hx : ev L x = some (.pointer (some a))) (h : w.cell? a = some v) : Does P L ⟨d, .load t x, ty, pos, af, g⟩ w v := fun ρ hρ => by
  simp [execOp, hρ _ _ hx, run_load1 h1 h]
theorem does_loadAgg {x : Operand} {t b o : Nat} {vs : List Value} (h1 : Agg P t) (hs : Sz P t vs.length) (hx : ev L x = some (.pointer (some ⟨b, o, none⟩))) (h : ∀ (j : Nat) v, vs[j]? = some v → w.cell? ⟨b, o + j, none⟩ = some v) :
    Does P L ⟨d, .load t x, ty, pos, af, g⟩ w (.agg vs.toArray) := fun ρ hρ => by
  simp [execOp, hρ _ _ hx, run_loadAgg h1 hs h]

theorem run_indexAt {t e sz : Nat} {A : Option Addr} {n c : Nat} {k : IntKind} {i : Int} (ht : SlT P t e) (hs : Sz P e sz) (hA : A = some ⟨(adr A).block, (adr A).off, none⟩) (h0 : 0 ≤ i) (hn : i < n) :
    (Instr.indexAt t (.slice A n c) (.int k i)).run P w = .ok (.pointer (some (pt A sz i.toNat 0))) w := by
  generalize adr A = a at hA
  subst hA
  have e1 : (⟨a.block, a.off, none⟩ : Addr).add (i.toNat * sz) = ⟨a.block, a.off + i.toNat * sz, none⟩ := add_lit _ _ _
  simp [Instr.indexAt, asIntOf, run_und ht, h0, hn, hs.run, e1, pt, adr]

theorem does_index {x i : Operand} {t e sz : Nat} {A : Option Addr} {n c : Nat} {k : IntKind} {j : Int} (ht : SlT P t e) (hs : Sz P e sz) (hx : ev L x = some (.slice A n c)) (hi : ev L i = some (.int k j))
    (hA : A = some ⟨(adr A).block, (adr A).off, none⟩) (h0 : 0 ≤ j) (hn : j < n) : Does P L ⟨d, .indexAddr t x i, ty, pos, af, g⟩ w (.pointer (some (pt A sz j.toNat 0))) := fun ρ hρ => by
  simp [execOp, hρ _ _ hx, hρ _ _ hi, run_indexAt ht hs hA h0 hn]
theorem does_indexN {x i : Operand} {t e sz : Nat} {A : Option Addr} {n c : Nat} {k : IntKind} {j : Nat} (ht : SlT P t e) (hs : Sz P e sz) (hx : ev L x = some (.slice A n c)) (hi : ev L i = some (.int k (j : Int)))
    (hA : A = some ⟨(adr A).block, (adr A).off, none⟩) (hn : j < n) : Does P L ⟨d, .indexAddr t x i, ty, pos, af, g⟩ w (.pointer (some (pt A sz j 0))) := by
  have := does_index (P := P) (L := L) (w := w) (ty := ty) (pos := pos) (af := af) (d := d) (g := g) ht hs hx hi hA (by omega) (by omega)
  simpa using this
theorem does_len {x : Operand} {t e : Nat} {A : Option Addr} {n c : Nat} (ht : SlT P t e) (hx : ev L x = some (.slice A n c)) :
    Does P L ⟨d, .call ⟨.builtin .len, #[x], #[t]⟩, ty, pos, af, g⟩ w (.int .i64 (n : Int)) := fun ρ hρ => by
  simp [execOp, resolve, hρ _ _ hx, invoke, builtin, Builtin.len_, run_und ht, goInt]
theorem does_min {x y : Operand} {s t : Nat} {k : IntKind} {m n : Int} (hx : ev L x = some (.int k m)) (hy : ev L y = some (.int k n)) :
    Does P L ⟨d, .call ⟨.builtin .min, #[x, y], #[s, t]⟩, ty, pos, af, g⟩ w (.int k (min m n)) := fun ρ hρ => by
  have e : (if n < m then n else m) = min m n := by omega
  simp [execOp, resolve, hρ _ _ hx, hρ _ _ hy, invoke, builtin, Builtin.min_, Builtin.min2, e]
theorem does_max {x y : Operand} {s t : Nat} {k : IntKind} {m n : Int} (hx : ev L x = some (.int k m)) (hy : ev L y = some (.int k n)) :
    Does P L ⟨d, .call ⟨.builtin .max, #[x, y], #[s, t]⟩, ty, pos, af, g⟩ w (.int k (max m n)) := fun ρ hρ => by
  have e : (if n > m then n else m) = max m n := by omega
  simp [execOp, resolve, hρ _ _ hx, hρ _ _ hy, invoke, builtin, Builtin.max_, Builtin.max2]
  try omega
theorem does_extract {x : Operand} {i : Nat} {vs : Array Value} {v : Value} (hx : ev L x = some (.tuple vs)) (h : vs[i]? = some v) : Does P L ⟨d, .extract x i, ty, pos, af, g⟩ w v := fun ρ hρ => by
  simp [execOp, hρ _ _ hx, Instr.extract, h]
theorem does_makeFunc {fn : Fn} {xs ys : Array Operand} {us vs : List Value} (hx : evs L xs.toList = some us) (hy : evs L ys.toList = some vs) : Does P L ⟨d, .makeFunc fn xs ys, ty, pos, af, g⟩ w (.func fn us.toArray vs.toArray) := fun ρ hρ => by
  have key : ∀ (zs : List Operand) (us : List Value), evs L zs = some us → zs.map ρ = us := by
    intro zs
    induction zs with
    | nil => intro us h; simp only [evs, Option.some.injEq] at h; subst h; rfl
    | cons z zs ih =>
      intro us h
      simp only [evs] at h
      split at h
      · rename_i v hv
        split at h
        · rename_i us' hus
          simp only [Option.some.injEq] at h
          subst h
          simp only [List.map_cons, hρ _ _ hv, ih _ hus]
        · cases h
      · cases h
  have e1 : xs.map ρ = us.toArray := by rw [← key _ _ hx, ← Array.toList_map, Array.toArray_toList]
  have e2 : ys.map ρ = vs.toArray := by rw [← key _ _ hy, ← Array.toList_map, Array.toArray_toList]
  simp [execOp, Instr.makeFunc, e1, e2]
end
end Go.Proofs.Ytopmadlgolnmfaa

namespace Go.Proofs.Ytopmadlgolnmfaa
set_option linter.unusedVariables false
set_option linter.unusedSimpArgs false
open Go.RowKit
theorem Does.to {P : Program} {L : List (Nat × Value)} {o : Oper} {w : World} {v v' : Value} (h : Does P L o w v) (e : v = v') : Does P L o w v' := e ▸ h

section
variable {P : Program} {L : List (Nat × Value)} {w : World} {d : Option Nat} {ty : TypeId} {pos : String} {af : Array Edge} {g : Option (Nat × Bool)}
theorem does_shr {x y : Operand} {xt yt : TypeId} {k : IntKind} {m n : Int} (hx : ev L x = some (.int .i64 m)) (hy : ev L y = some (.int k n)) (h0 : 0 ≤ n) (h1 : n < 64) :
    Does P L ⟨d, .binOp .shr xt x y yt, ty, pos, af, g⟩ w (.int .i64 (m / 2 ^ n.toNat)) := fun ρ hρ => by
  have e : min n.toNat 64 = n.toNat := by omega
  have hm : m.fdiv (2 ^ n.toNat) = m / 2 ^ n.toNat := Int.fdiv_eq_ediv_of_nonneg _ (Int.le_of_lt (Int.pow_pos (by decide)))
  simp [execOp, hρ _ _ hx, hρ _ _ hy, eqGuard, binOp, Op.shift, IntKind.bits, show ¬ n < 0 by omega, e, hm]
theorem does_shl {x y : Operand} {xt yt : TypeId} {k : IntKind} {m n : Int} (hx : ev L x = some (.int .i64 m)) (hy : ev L y = some (.int k n)) (h0 : 0 ≤ n) (h1 : n < 64) (h : i64ok (m * 2 ^ n.toNat)) :
    Does P L ⟨d, .binOp .shl xt x y yt, ty, pos, af, g⟩ w (.int .i64 (m * 2 ^ n.toNat)) := fun ρ hρ => by
  have e : min n.toNat 64 = n.toNat := by omega
  simp [execOp, hρ _ _ hx, hρ _ _ hy, eqGuard, binOp, Op.shift, IntKind.bits, show ¬ n < 0 by omega, e, h.eq]
theorem bit_and (m : Int) : IntKind.i64.wrap ((BitVec.ofInt 64 m &&& BitVec.ofInt 64 1).toNat : Int) = m % 2 := by
  have e : ((BitVec.ofInt 64 m &&& BitVec.ofInt 64 1).toNat : Int) = m % 2 := by
    rw [BitVec.toNat_and, show (BitVec.ofInt 64 1).toNat = 1 from rfl, Nat.and_one_is_mod, BitVec.toNat_ofInt]
    omega
  rw [e]
  exact i64ok.eq ⟨by omega, by omega⟩
theorem does_and1 {x y : Operand} {xt yt : TypeId} {m : Int} (hx : ev L x = some (.int .i64 m)) (hy : ev L y = some (.int .i64 1)) :
    Does P L ⟨d, .binOp .and xt x y yt, ty, pos, af, g⟩ w (.int .i64 (m % 2)) := fun ρ hρ => by
  have e : Op.intBits .and .i64 m 1 = pure (.int .i64 (m % 2)) := congrArg (fun z => (pure (Value.int .i64 z) : Sem Value)) (bit_and m)
  simp [execOp, hρ _ _ hx, hρ _ _ hy, eqGuard, binOp, e]
theorem does_nilCheck {x : Operand} {a : Addr} (hx : ev L x = some (.pointer (some a))) : Does P L ⟨d, .nilCheck x, ty, pos, af, g⟩ w (.pointer (some a)) := fun ρ hρ => by
  simp [execOp, hρ _ _ hx]
end
end Go.Proofs.Ytopmadlgolnmfaa

namespace Go.Proofs.Ytopmadlgolnmfaa
set_option linter.unusedVariables false
set_option linter.unusedSimpArgs false
open Go.RowKit

section
variable {P : Program} {ops : Array Oper} {w : World} {Q : Exit → Act → World → Prop} {Qs : Act → Prop} {rest l : List Oper} {N : FN} {L : List (Nat × Value)} {a : Act} {ty : TypeId} {pos : String} {af : Array Edge} {op : Op} {o : Oper}

/-! ## lists of operations -/
theorem list_does {d : Nat} {v : Value} (H : Fr N L a) (hd : Nat.blt d N.n = true) (h : Does P L ⟨some d, op, ty, pos, af, none⟩ w v)
    (k : ∀ a', Fr N ((d, v) :: L) a' → wpList P ops Q rest a' w) : wpList P ops Q (⟨some d, op, ty, pos, af, none⟩ :: rest) a w := by
  refine wpList_plain rfl fun K hK => ?_
  unfold Oper.wp
  rw [h a.eval (fun x u hx => H.eval hx)]
  exact hK _ _ (k _ (H.put v hd))

theorem list_of_still : ∀ (l1 : List Oper) (l2 : List Oper) (a : Act), wpStill P ops w (fun a' => wpList P ops Q l2 a' w) l1 a → wpList P ops Q (l1 ++ l2) a w := by
  intro l1
  induction l1 with
  | nil => intro l2 a h; exact h
  | cons o l1 ih =>
    intro l2 a h
    simp only [wpStill] at h
    refine wpList_step fun K hK => ?_
    split
    · rename_i hw
      rw [if_pos hw] at h
      exact Oper.wp_of_still (fun a' ha' => hK _ _ (ih l2 a' ha')) h
    · rename_i hw
      rw [if_neg hw] at h
      exact hK _ _ (ih l2 _ h)

theorem list_still (m : Nat) (h : wpStill P ops w (fun a' => wpList P ops Q (l.drop m) a' w) (l.take m) a) : wpList P ops Q l a w := by
  have := list_of_still (P := P) (ops := ops) (Q := Q) (l.take m) (l.drop m) a h
  rwa [List.take_append_drop] at this

theorem wanted_no {d : Option Nat} {i g : Nat} {b c : Bool} (H : Fr N L a) (hg : (ops[i]?).bind (·.dst) = some g) (hc : look L g = some (.bool c)) (hne : (c == b) = false) :
    Region.wanted ⟨d, op, ty, pos, af, some (i, b)⟩ (yielded ops a.tmps) = false := by
  simp only [Region.wanted, yielded, hg, Option.bind_some, H.at_ g _ hc]
  cases b <;> cases c <;> simp_all

theorem wanted_yes {d : Option Nat} {i g : Nat} {b : Bool} (H : Fr N L a) (hg : (ops[i]?).bind (·.dst) = some g) (hb : look L g = some (.bool b)) :
    Region.wanted ⟨d, op, ty, pos, af, some (i, b)⟩ (yielded ops a.tmps) = true := by
  simp only [Region.wanted, yielded, hg, Option.bind_some, H.at_ g _ hb]
  simp

theorem list_yes {d : Option Nat} {i g : Nat} {b : Bool} (H : Fr N L a) (hg : (ops[i]?).bind (·.dst) = some g) (hb : look L g = some (.bool b))
    (k : wpList P ops Q (⟨d, op, ty, pos, af, none⟩ :: rest) a w) : wpList P ops Q (⟨d, op, ty, pos, af, some (i, b)⟩ :: rest) a w := by
  unfold wpList at k ⊢
  rw [if_pos (wanted_yes H hg hb)]
  simpa [Region.wanted, Oper.wp, Oper.upon, Oper.asks, execOp] using k

theorem still_no {d : Nat} {i g : Nat} {b c : Bool} (H : Fr N L a) (hg : (ops[i]?).bind (·.dst) = some g) (hc : look L g = some (.bool c)) (hne : (c == b) = false) (hd : Nat.blt d N.n = true)
    (k : ∀ a', Fr N ((d, undef) :: L) a' → wpStill P ops w Qs rest a') : wpStill P ops w Qs (⟨some d, op, ty, pos, af, some (i, b)⟩ :: rest) a := by
  unfold wpStill
  rw [if_neg (by rw [wanted_no H hg hc hne]; simp)]
  exact k _ (H.put _ hd)

theorem still_yes' {d : Option Nat} {i g : Nat} {b c : Bool} (H : Fr N L a) (hg : (ops[i]?).bind (·.dst) = some g) (hc : look L g = some (.bool c)) (e : c = b)
    (k : wpStill P ops w Qs (⟨d, op, ty, pos, af, none⟩ :: rest) a) : wpStill P ops w Qs (⟨d, op, ty, pos, af, some (i, b)⟩ :: rest) a := by
  subst e
  exact still_yes H hg hc k

/-! ## a stretch that runs under a guard alone: 'a or b', 'a and b' -/
/-- What a slot holds that was written under a guard. -/
def gv (c b : Bool) (v : Value) : Value := bif c == b then v else undef

def skips (ops : Array Oper) (i g : Nat) (b : Bool) : List Nat → List Oper → Bool
  | _, [] => true
  | U, o :: l => (match o.guard with
      | some (j, b') => (Nat.beq j i && (b' == b)) || (match (ops[j]?).bind (·.dst) with | some s => U.any (Nat.beq s) | none => false)
      | none => false) && (match o.dst with | some d => !(Nat.beq d g) && skips ops i g b (d :: U) l | none => skips ops i g b U l)

def clean (L : List (Nat × Value)) : List Oper → Bool
  | [] => true
  | o :: l => (match o.dst with
      | some d => (match look L d with | none => true | some _ => false)
      | none => true) && clean L l

def writes (t : Nat) : List Oper → Bool
  | [] => false
  | o :: l => (match o.dst with | some d => Nat.beq d t | none => false) || writes t l

theorem Fr.put_clean (H : Fr N L a) {d : Nat} (v : Value) (hd : look L d = none) : Fr N L (a.put (some d) v) := by
  refine ⟨by simp [Act.put, H.size], H.defs, fun t u h => ?_⟩
  have hne : d ≠ t := by intro e; subst e; rw [hd] at h; cases h
  simp only [Act.put]
  rw [Array.getElem?_setIfInBounds_ne hne]
  exact H.at_ t u h

theorem not_wanted {i : Nat} {b : Bool} {d : Option Nat} (h : ∀ s, (ops[i]?).bind (·.dst) = some s → ∀ q, a.tmps[s]? = some (.bool q) → q ≠ b) :
    Region.wanted ⟨d, op, ty, pos, af, some (i, b)⟩ (yielded ops a.tmps) = false := by
  simp only [Region.wanted, yielded]
  cases hs : (ops[i]?).bind (·.dst) with
  | none => simp
  | some s =>
    simp only [Option.bind_some]
    cases hv : a.tmps[s]? with
    | none => simp
    | some v =>
      cases v with
      | bool q => have := h s hs q hv; simp; exact fun e => this e
      | _ => simp

theorem still_skip {i g : Nat} {b c : Bool} (hg : (ops[i]?).bind (·.dst) = some g) (hcb : c ≠ b) :
    ∀ (l : List Oper) (U : List Nat) (a : Act), Fr N L a → a.tmps[g]? = some (.bool c) → (∀ s ∈ U, s < N.n → a.tmps[s]? = some undef) →
      skips ops i g b U l = true → clean L l = true →
      (∀ a', Fr N L a' → (∀ s, (s ∈ U ∨ writes s l = true) → s < N.n → a'.tmps[s]? = some undef) → Qs a') →
      wpStill P ops w Qs l a := by
  intro l
  induction l with
  | nil => intro U a H _ hU _ _ k; exact k a H (fun s hs hlt => hU s (by simpa [writes] using hs) hlt)
  | cons o l ih =>
    intro U a H hgc hU hs hcl k
    obtain ⟨d, op, ty, pos, af, gd⟩ := o
    simp only [skips, Bool.and_eq_true] at hs
    simp only [clean, Bool.and_eq_true] at hcl
    obtain ⟨hs1, hs2⟩ := hs
    have hw : Region.wanted ⟨d, op, ty, pos, af, gd⟩ (yielded ops a.tmps) = false := by
      cases gd with
      | none => simp at hs1
      | some p =>
        obtain ⟨j, b'⟩ := p
        refine not_wanted fun s hsj q hq => ?_
        simp only [Bool.or_eq_true, Bool.and_eq_true] at hs1
        rcases hs1 with ⟨h1, h2⟩ | h1
        · have := Nat.eq_of_beq_eq_true h1
          subst this
          rw [hg, Option.some.injEq] at hsj
          subst hsj
          rw [hgc] at hq
          simp at hq h2
          subst hq; subst h2
          exact hcb
        · rw [hsj] at h1
          simp only [List.any_eq_true] at h1
          obtain ⟨u, hu, he⟩ := h1
          have := Nat.eq_of_beq_eq_true he
          subst this
          have hlt : s < N.n := by
            have := (Array.getElem?_eq_some_iff.1 hq).1
            rw [H.size] at this
            exact this
          rw [hU s hu hlt] at hq
          simp [undef] at hq
    unfold wpStill
    rw [if_neg (by rw [hw]; simp)]
    cases d with
    | none =>
      refine ih U _ H hgc hU hs2 hcl.2 fun a' H' h' => k a' H' fun s hs hlt => h' s ?_ hlt
      simpa [writes] using hs
    | some d =>
      simp only [Bool.and_eq_true, Bool.not_eq_true'] at hs2
      have hdg : d ≠ g := fun e => by subst e; simp at hs2
      have hld : look L d = none := by
        cases hl : look L d with
        | none => rfl
        | some v => have h0 := hcl.1; simp only [hl] at h0; exact absurd h0 (by simp)
      refine ih (d :: U) (a.put (some d) undef) (H.put_clean undef hld) ?_ ?_ hs2.2 hcl.2 ?_
      · simp only [Act.put]
        rw [Array.getElem?_setIfInBounds_ne hdg]
        exact hgc
      · intro s hs hlt
        simp only [Act.put]
        by_cases e : d = s
        · subst e
          simp [H.size, hlt]
        · rw [Array.getElem?_setIfInBounds_ne e]
          rcases List.mem_cons.1 hs with h | h
          · exact absurd h.symm e
          · exact hU s h hlt
      · intro a' H' h'
        refine k a' H' fun s hs hlt => h' s ?_ hlt
        rcases hs with hs | hs
        · exact .inl (List.mem_cons_of_mem _ hs)
        · simp only [writes, Bool.or_eq_true] at hs
          rcases hs with hs | hs
          · have := Nat.eq_of_beq_eq_true hs
            subst this
            exact .inl (List.mem_cons_self ..)
          · exact .inr hs

theorem wpStill_mono {Q1 Q2 : Act → Prop} (h : ∀ a, Q1 a → Q2 a) : ∀ (l : List Oper) (a : Act), wpStill P ops w Q1 l a → wpStill P ops w Q2 l a := by
  intro l
  induction l with
  | nil => intro a h1; exact h a h1
  | cons o l ih =>
    intro a h1
    unfold wpStill at h1 ⊢
    split
    · rename_i hw; rw [if_pos hw] at h1; exact Oper.still_mono (fun a ha => ih a ha) h1
    · rename_i hw; rw [if_neg hw] at h1; exact ih _ h1

theorem wpStill_append {l2 : List Oper} : ∀ (l1 : List Oper) (a : Act), wpStill P ops w (wpStill P ops w Qs l2) l1 a → wpStill P ops w Qs (l1 ++ l2) a := by
  intro l1
  induction l1 with
  | nil => intro a h; exact h
  | cons o l1 ih =>
    intro a h
    simp only [List.cons_append]
    unfold wpStill at h ⊢
    split
    · rename_i hw; rw [if_pos hw] at h; exact Oper.still_mono (fun a ha => ih a ha) h
    · rename_i hw; rw [if_neg hw] at h; exact ih _ h

theorem still_guard {i g t : Nat} {b c : Bool} {v : Value} (m : Nat) (H : Fr N L a) (hg : (ops[i]?).bind (·.dst) = some g) (hc : look L g = some (.bool c))
    (hs : skips ops i g b [] (l.take m) = true) (hw : writes t (l.take m) = true) (hcl : clean L (l.take m) = true) (ht : Nat.blt t N.n = true)
    (h1 : c = b → wpStill P ops w (fun a' => Fr N ((t, v) :: L) a') (l.take m) a)
    (k : ∀ a', Fr N ((t, gv c b v) :: L) a' → wpStill P ops w Qs (l.drop m) a') : wpStill P ops w Qs l a := by
  have key : wpStill P ops w (wpStill P ops w Qs (l.drop m)) (l.take m) a := by
    by_cases e : c = b
    · refine wpStill_mono (fun a' ha' => k a' ?_) _ _ (h1 e)
      simpa [gv, e] using ha'
    · refine still_skip hg e (l.take m) [] a H (H.at_ _ _ hc) (by simp) hs hcl fun a' H' h' => k a' ?_
      have hlt : t < N.n := by simpa using ht
      have := h' t (.inr hw) hlt
      refine ⟨H'.size, H'.defs, fun s u hu => ?_⟩
      simp only [look] at hu
      cases hb : Nat.beq t s
      · rw [hb] at hu; exact H'.at_ s u hu
      · rw [hb] at hu
        have := Nat.eq_of_beq_eq_true hb
        subst this
        simp only [cond_true, Option.some.injEq] at hu
        subst hu
        have e' : (c == b) = false := by simpa using e
        simpa [gv, e'] using this
  have := wpStill_append (P := P) (ops := ops) (w := w) (Qs := Qs) (l2 := l.drop m) (l.take m) a key
  rwa [List.take_append_drop] at this

theorem does_or {d : Option Nat} {g : Option (Nat × Bool)} {c x y : Operand} {b r : Bool} (hc : ev L c = some (.bool b)) (hx : ev L x = some (.bool true)) (hy : ev L y = some (gv b false (.bool r))) :
    Does P L ⟨d, .pick c x y, ty, pos, af, g⟩ w (.bool (b || r)) := fun ρ hρ => by
  simp only [execOp, hρ _ _ hc, hρ _ _ hx, hρ _ _ hy]
  cases b <;> simp [asBool, gv]
theorem does_and {d : Option Nat} {g : Option (Nat × Bool)} {c x y : Operand} {b r : Bool} (hc : ev L c = some (.bool b)) (hx : ev L x = some (gv b true (.bool r))) (hy : ev L y = some (.bool false)) :
    Does P L ⟨d, .pick c x y, ty, pos, af, g⟩ w (.bool (b && r)) := fun ρ hρ => by
  simp only [execOp, hρ _ _ hc, hρ _ _ hx, hρ _ _ hy]
  cases b <;> simp [asBool, gv]

/-- The last bindings forgotten, but for one slot's. -/
def cleanK : Nat → List (Nat × Value) → Bool
  | 0, _ => true
  | _ + 1, [] => true
  | k + 1, (t, _) :: L => (match look (L.drop k) t with | none => true | some _ => false) && cleanK k L

theorem look_strip : ∀ (k : Nat) (X : List (Nat × Value)), cleanK k X = true → ∀ t v, look (X.drop k) t = some v → look X t = some v := by
  intro k
  induction k with
  | zero => intro X _ t v h; simpa using h
  | succ k ih =>
    intro X hc t v h
    cases X with
    | nil => simpa using h
    | cons p X =>
      obtain ⟨s, u⟩ := p
      simp only [cleanK, Bool.and_eq_true] at hc
      simp only [List.drop_succ_cons] at h
      simp only [look]
      cases hb : Nat.beq s t
      · exact ih X hc.2 t v h
      · have := Nat.eq_of_beq_eq_true hb
        subst this
        rw [h] at hc
        simp at hc

theorem Fr.strip {X : List (Nat × Value)} {t : Nat} {v : Value} (k : Nat) (H : Fr N X a) (ht : look X t = some v) (hc : cleanK k X = true) : Fr N ((t, v) :: X.drop k) a := by
  refine ⟨H.size, H.defs, fun s u hu => ?_⟩
  simp only [look] at hu
  cases hb : Nat.beq t s
  · rw [hb] at hu; exact H.at_ s u (look_strip k X hc s u hu)
  · rw [hb] at hu
    have := Nat.eq_of_beq_eq_true hb
    subst this
    simp only [cond_true, Option.some.injEq] at hu
    subst hu
    exact H.at_ _ _ ht

/-! ## statements -/
variable {y : Code} {id : Nat}

theorem seq_list (h : ∀ K : Act → World → Prop, (∀ a w, y.wp P Q a w → K a w) → wpList P l.toArray (Exit.then K Q) l a w) : (Code.seq (.region id l.toArray false) y).wp P Q a w :=
  wp_seq_k fun K hK => wp_region_lit (h K hK)
theorem seq_still (h : ∀ K : Act → Prop, (∀ a, y.wp P Q a w → K a) → wpStill P l.toArray w K l a) : (Code.seq (.region id l.toArray false) y).wp P Q a w := by
  refine wp_seq (wp_region_lit ?_)
  have := h (fun a => y.wp P Q a w) (fun _ h => h)
  have h2 := list_of_still (P := P) (ops := l.toArray) (w := w) (Q := Exit.then (y.wp P Q) Q) l [] a (wpStill_mono (fun a ha => ha) _ _ this)
  simpa using h2
theorem seq_stillD (hm : P.follows .mixedOrders = true) (hB : Region.lexB .any l.toArray = true) (h : ∀ K : Act → Prop, (∀ a, y.wp P Q a w.drew → K a) → wpStill P l.toArray w.drew K l a) :
    (Code.seq (.region id l.toArray true) y).wp P Q a w :=
  wp_seq (wp_region_still_lit hm hB (h _ (fun _ h => h)))
theorem seq_tail (n : Nat) (hm : P.follows .mixedOrders = true) (hB : Region.lexTailB .any l.toArray n = true)
    (h : ∀ K : Act → World → Prop, (∀ a w, y.wp P Q a w → K a w) → wpStill P l.toArray w.drew (fun a' => wpList P l.toArray (Exit.then K Q) (l.drop n) a' w.drew) (l.take n) a) :
    (Code.seq (.region id l.toArray true) y).wp P Q a w :=
  wp_seq_k fun K hK => wp_region_still_tail n hm hB (h K hK)
theorem one_list (h : wpList P l.toArray Q l a w) : (Code.region id l.toArray false).wp P Q a w := wp_region_lit h
theorem one_still (h : wpStill P l.toArray w (fun a => Q .normal a w) l a) : (Code.region id l.toArray false).wp P Q a w := by
  refine wp_region_lit ?_
  have h2 := list_of_still (P := P) (ops := l.toArray) (w := w) (Q := Q) l [] a (wpStill_mono (fun a ha => ha) _ _ h)
  simpa using h2
theorem one_stillD (hm : P.follows .mixedOrders = true) (hB : Region.lexB .any l.toArray = true) (h : wpStill P l.toArray w.drew (fun a => Q .normal a w.drew) l a) :
    (Code.region id l.toArray true).wp P Q a w := wp_region_still_lit hm hB h
theorem one_tail (n : Nat) (hm : P.follows .mixedOrders = true) (hB : Region.lexTailB .any l.toArray n = true)
    (h : wpStill P l.toArray w.drew (fun a' => wpList P l.toArray Q (l.drop n) a' w.drew) (l.take n) a) : (Code.region id l.toArray true).wp P Q a w :=
  wp_region_still_tail n hm hB h

theorem cond_ {t : Nat} {x : Code} {b : Bool} (H : Fr N L a) (hc : look L t = some (.bool b)) (h1 : b = true → x.wp P Q a w) (h2 : b = false → y.wp P Q a w) : (Code.cond (.tmp t) x y).wp P Q a w :=
  wp_cond_split (H.eval (x := .tmp t) hc) h1 h2

/-- Several ways that meet. -/
theorem seq_meet {x : Code} (M : Act → World → Prop) (h1 : ∀ K : Act → World → Prop, (∀ a w, M a w → K a w) → x.wp P (Exit.then K Q) a w) (h2 : ∀ a w, M a w → y.wp P Q a w) : (Code.seq x y).wp P Q a w :=
  wp_seq_k fun K hK => h1 K fun a w h => hK a w (h2 a w h)

theorem loop_ {c : Code} (I : Nat → Act → World → Prop) (n₀ : Nat) (h₀ : I n₀ a w)
    (round : ∀ n a w, I n a w → ∀ K : Act → World → Prop, (∀ n' a' w', n' < n → I n' a' w' → K a' w') → c.wp P (Exit.then K Q) a w) : (Code.loop c).wp P Q a w :=
  wp_loop_ghost I n₀ h₀ fun n a w hI => round n a w hI _ fun n' _ _ hlt h => ⟨n', hlt, h⟩

/-! ## returns -/
theorem ret1 {fn : Func} {R : Value → World → Prop} {t : Nat} {v : Value} (hr : fn.results = #[.tmp t]) {q_ : Nat} (H : Fr ⟨q_, []⟩ L a) (hv : look L t = some v) (h : R v w) : bodyPost P fn (Ret R) .ret a w :=
  bodyPost_ret (v := v) (by rw [results_tmp hr]; simp [H.at_ _ _ hv]) H.defs h
theorem ret2 {fn : Func} {R : Value → World → Prop} {t u : Nat} {v v' : Value} (hr : fn.results = #[.tmp t, .tmp u]) {q_ : Nat} (H : Fr ⟨q_, []⟩ L a) (hv : look L t = some v) (hv' : look L u = some v') (h : R (.tuple #[v, v']) w) : bodyPost P fn (Ret R) .ret a w :=
  bodyPost_ret (v := .tuple #[v, v']) (by rw [results_tmp2 hr]; simp [H.at_ _ _ hv, H.at_ _ _ hv']) H.defs h
theorem ret3 {fn : Func} {R : Value → World → Prop} {t u s : Nat} {v v' v'' : Value} (hr : fn.results = #[.tmp t, .tmp u, .tmp s]) {q_ : Nat} (H : Fr ⟨q_, []⟩ L a) (hv : look L t = some v) (hv' : look L u = some v') (hv'' : look L s = some v'') (h : R (.tuple #[v, v', v'']) w) : bodyPost P fn (Ret R) .ret a w :=
  bodyPost_ret (v := .tuple #[v, v', v'']) (by simp [results, hr, H.at_ _ _ hv, H.at_ _ _ hv', H.at_ _ _ hv'']) H.defs h
theorem ret4 {fn : Func} {R : Value → World → Prop} {t u s q : Nat} {v v' v'' v3 : Value} (hr : fn.results = #[.tmp t, .tmp u, .tmp s, .tmp q]) {q_ : Nat} (H : Fr ⟨q_, []⟩ L a) (hv : look L t = some v) (hv' : look L u = some v') (hv'' : look L s = some v'') (hv3 : look L q = some v3) (h : R (.tuple #[v, v', v'', v3]) w) : bodyPost P fn (Ret R) .ret a w :=
  bodyPost_ret (v := .tuple #[v, v', v'', v3]) (by simp [results, hr, H.at_ _ _ hv, H.at_ _ _ hv', H.at_ _ _ hv'', H.at_ _ _ hv3]) H.defs h
theorem ret0 {fn : Func} {R : Value → World → Prop} (hr : fn.results = #[]) {q_ : Nat} (H : Fr ⟨q_, []⟩ L a) (h : R (.tuple #[]) w) : bodyPost P fn (Ret R) .ret a w :=
  bodyPost_ret (v := .tuple #[]) (by simp [results, hr]) H.defs h
/-- A struct's result lies in a cell's place. -/
theorem retA {fn : Func} {R : Value → World → Prop} {t ty b o : Nat} {vs : List Value} (hr : fn.results = #[.cell t ty]) {q_ : Nat} (H : Fr ⟨q_, []⟩ L a) (ht : look L t = some (.pointer (some ⟨b, o, none⟩)))
    (hA : Agg P ty) (hs : Sz P ty vs.length) (hc : ∀ (j : Nat) v, vs[j]? = some v → w.cell? ⟨b, o + j, none⟩ = some v) (h : R (.agg vs.toArray) w) : bodyPost P fn (Ret R) .ret a w := by
  have hl := run_loadAgg (P := P) hA hs hc
  simp only [Instr.loadAt, Instr.sureAddr] at hl
  refine bodyPost_ret (v := .agg vs.toArray) ?_ H.defs h
  simp [results, hr, H.at_ _ _ ht, asAddr]
  simpa using hl
theorem retA1 {fn : Func} {R : Value → World → Prop} {t ty b o u : Nat} {vs : List Value} {v : Value} (hr : fn.results = #[.cell t ty, .tmp u]) {q_ : Nat} (H : Fr ⟨q_, []⟩ L a) (ht : look L t = some (.pointer (some ⟨b, o, none⟩)))
    (hA : Agg P ty) (hs : Sz P ty vs.length) (hc : ∀ (j : Nat) v, vs[j]? = some v → w.cell? ⟨b, o + j, none⟩ = some v) (hu : look L u = some v) (h : R (.tuple #[.agg vs.toArray, v]) w) : bodyPost P fn (Ret R) .ret a w := by
  have hl := run_loadAgg (P := P) hA hs hc
  simp only [Instr.loadAt, Instr.sureAddr] at hl
  refine bodyPost_ret (v := .tuple #[.agg vs.toArray, v]) ?_ H.defs h
  have hl' : (loadVar ty ⟨b, o, none⟩).run P w = .ok (.agg vs.toArray) w := by simpa using hl
  simp [results, hr, H.at_ _ _ ht, H.at_ _ _ hu, asAddr, hl']

/-! ## calls -/
theorem list_call {d f : Nat} {fn : Func} {xs : Array Operand} {ats : Array TypeId} {vs : List Value} {R : Value → World → Prop} (H : Fr N L a) (hd : Nat.blt d N.n = true) (hxs : evs L xs.toList = some vs)
    (hf : P.funcs[f]? = some fn) (hb : fn.body.isNone = false) (hn : (fn.name == "runtime.NumGoroutine") = false)
    (hc : Calls P f vs.toArray w (Ret R)) (k : ∀ v w' a', R v w' → Fr N ((d, v) :: L) a' → wpList P ops Q rest a' w') :
    wpList P ops Q (⟨some d, .call ⟨.value (.func f), xs, ats⟩, ty, pos, af, none⟩ :: rest) a w := by
  refine wpList_plain rfl fun K hK => ?_
  have e1 : xs.map a.eval = vs.toArray := by rw [← H.evals hxs, ← Array.toList_map, Array.toArray_toList]
  have hrun : (execOp a.eval ⟨some d, .call ⟨.value (.func f), xs, ats⟩, ty, pos, af, none⟩).run P w = .ok (.enter f vs.toArray) w := by
    have hb' : fn.body ≠ none := by intro e; rw [e] at hb; simp at hb
    have hn' : ¬ fn.name = "runtime.NumGoroutine" := by simpa using hn
    simp [execOp, resolve, Act.eval, Deferred.ofValue, e1, invoke, callFunc, hf, hn', hb']
  unfold Oper.wp
  rw [hrun]
  refine hc.mono fun e w' he => ?_
  cases e with
  | returned v => exact hK _ _ (k v w' _ he (H.put v hd))
  | panicked _ => exact he.elim
  | outgrown => exact he.elim

/-- A call of a function value. -/
theorem list_callv {d f t : Nat} {fn : Func} {xs : Array Operand} {ats : Array TypeId} {vs fs cs : List Value} {R : Value → World → Prop} (H : Fr N L a) (hd : Nat.blt d N.n = true) (hxs : evs L xs.toList = some vs)
    (ht : look L t = some (.func (.func f) fs.toArray cs.toArray)) (hf : P.funcs[f]? = some fn) (hb : fn.body.isNone = false) (hn : (fn.name == "runtime.NumGoroutine") = false)
    (hc : Calls P f (fs ++ vs ++ cs).toArray w (Ret R)) (k : ∀ v w' a', R v w' → Fr N ((d, v) :: L) a' → wpList P ops Q rest a' w') :
    wpList P ops Q (⟨some d, .call ⟨.value (.tmp t), xs, ats⟩, ty, pos, af, none⟩ :: rest) a w := by
  refine wpList_plain rfl fun K hK => ?_
  have e1 : xs.map a.eval = vs.toArray := by rw [← H.evals hxs, ← Array.toList_map, Array.toArray_toList]
  have hrun : (execOp a.eval ⟨some d, .call ⟨.value (.tmp t), xs, ats⟩, ty, pos, af, none⟩).run P w = .ok (.enter f (fs ++ vs ++ cs).toArray) w := by
    have hb' : fn.body ≠ none := by intro e; rw [e] at hb; simp at hb
    have hn' : ¬ fn.name = "runtime.NumGoroutine" := by simpa using hn
    have e2 : a.eval (.tmp t) = .func (.func f) fs.toArray cs.toArray := H.eval (x := .tmp t) ht
    simp [execOp, resolve, e2, Deferred.ofValue, e1, invoke, callFunc, hf, hn', hb']
  unfold Oper.wp
  rw [hrun]
  refine hc.mono fun e w' he => ?_
  cases e with
  | returned v => exact hK _ _ (k v w' _ he (H.put v hd))
  | panicked _ => exact he.elim
  | outgrown => exact he.elim

/-- A call inside a stretch that only reads: it must leave the world as it is. -/
theorem still_call {d f : Nat} {fn : Func} {xs : Array Operand} {ats : Array TypeId} {vs : List Value} {v : Value} (H : Fr N L a) (hd : Nat.blt d N.n = true) (hxs : evs L xs.toList = some vs)
    (hf : P.funcs[f]? = some fn) (hb : fn.body.isNone = false) (hn : (fn.name == "runtime.NumGoroutine") = false)
    (hc : Calls P f vs.toArray w (Ret fun u w' => u = v ∧ w' = w)) (k : ∀ a', Fr N ((d, v) :: L) a' → wpStill P ops w Qs rest a') :
    wpStill P ops w Qs (⟨some d, .call ⟨.value (.func f), xs, ats⟩, ty, pos, af, none⟩ :: rest) a := by
  refine wpStill_step fun K hK => ?_
  simp only [Region.wanted, if_true]
  have e1 : xs.map a.eval = vs.toArray := by rw [← H.evals hxs, ← Array.toList_map, Array.toArray_toList]
  have hrun : (execOp a.eval ⟨some d, .call ⟨.value (.func f), xs, ats⟩, ty, pos, af, none⟩).run P w = .ok (.enter f vs.toArray) w := by
    have hb' : fn.body ≠ none := by intro e; rw [e] at hb; simp at hb
    have hn' : ¬ fn.name = "runtime.NumGoroutine" := by simpa using hn
    simp [execOp, resolve, Act.eval, Deferred.ofValue, e1, invoke, callFunc, hf, hn', hb']
  unfold Oper.still
  rw [hrun]
  refine ⟨rfl, v, hc.mono fun e w' he => ?_, hK _ (k _ (H.put v hd))⟩
  cases e with
  | returned u => obtain ⟨rfl, rfl⟩ := he; exact ⟨rfl, rfl⟩
  | panicked _ => exact he.elim
  | outgrown => exact he.elim
end
end Go.Proofs.Ytopmadlgolnmfaa

namespace Go.Proofs.Ytopmadlgolnmfaa
set_option linter.unusedVariables false
set_option linter.unusedSimpArgs false
open Go.RowKit

def Zero (P : Program) (t : Nat) (zs : List Value) : Prop := (P.info? t).map (fun i => (i.zero.map fun z => z.cells.toList)) = some (some zs)
def Bytes (P : Program) (t n : Nat) : Prop := (P.info? t).map (·.bytes) = some n

def splice : List Value → Nat → List Value → List Value
  | cs, 0, [] => cs
  | _ :: cs, 0, v :: vs => v :: splice cs 0 vs
  | c :: cs, o + 1, vs => c :: splice cs o vs
  | [], _, _ => []

theorem splice_eq : ∀ (cs : List Value) (o : Nat) (vs : List Value), o + vs.length ≤ cs.length → splice cs o vs = cs.take o ++ vs ++ cs.drop (o + vs.length) := by
  intro cs
  induction cs with
  | nil =>
    intro o vs h
    have : vs = [] := by cases vs with | nil => rfl | cons _ _ => simp at h
    subst this
    cases o with
    | zero => rfl
    | succ o => simp at h
  | cons c cs ih =>
    intro o vs h
    cases o with
    | zero =>
      cases vs with
      | nil => rfl
      | cons v vs =>
        simp only [splice]
        have := ih 0 vs (by simp at h ⊢; omega)
        simp at this
        simp [this]
    | succ o =>
      simp only [splice]
      have := ih o vs (by simp at h; omega)
      rw [this]
      simp [Nat.add_right_comm]

theorem splice_length (cs : List Value) (o : Nat) (vs : List Value) (h : o + vs.length ≤ cs.length) : (splice cs o vs).length = cs.length := by
  rw [splice_eq cs o vs h]; simp; omega

section
variable {P : Program} {ops : Array Oper} {w w0 : World} {F0 : Nat → Prop} {R : List Mem} {Q : Exit → Act → World → Prop} {Qs : Act → Prop} {rest l : List Oper} {N : FN} {L : List (Nat × Value)} {a : Act} {ty : TypeId} {pos : String} {af : Array Edge} {op : Op} {o : Oper}

theorem St.alloc (S : St w0 F0 R w) (cs : Array Value) (t : TypeId) {m : Mem} (hm : m.holds (w.alloc (.cells cs t))) (hf : ∀ k, m.fp k → k = w.heap.size) : St w0 F0 (m :: R) (w.alloc (.cells cs t)) :=
  S.new (Keeps.alloc w _ _) hm fun k hk => by rw [hf k hk]; simp

theorem boxM.new (S : St w0 F0 R w) (cs : List Value) (t : TypeId) : St w0 F0 (boxM w.heap.size t cs :: R) (w.alloc (.cells cs.toArray t)) :=
  S.alloc _ _ (heap_alloc_new w _) (fun _ h => h)

theorem list_box {d t : Nat} {x : Operand} {v : Value} {cs : List Value} (H : Fr N L a) (hd : Nat.blt d N.n = true) (S : St w0 F0 R w) (hx : ev L x = some v) (hv : v.cells = cs.toArray)
    (k : ∀ b w' a', b < w'.heap.size → w0.heap.size ≤ b → St w0 F0 (boxM b t cs :: R) w' → Fr N ((d, .pointer (some ⟨b, 0, none⟩)) :: L) a' → wpList P ops Q rest a' w') :
    wpList P ops Q (⟨some d, .box t x, ty, pos, af, none⟩ :: rest) a w := by
  refine wpList_plain rfl fun K hK => ?_
  unfold Oper.wp
  have e : (execOp a.eval ⟨some d, .box t x, ty, pos, af, none⟩).run P w = .ok (.value (.pointer (some ⟨w.heap.size, 0, none⟩))) (w.alloc (.cells cs.toArray t)) := by
    simp [execOp, H.eval hx, Instr.box, newVar, newRow, newObj, hv, Sem.run]
  rw [e]
  exact hK _ _ (k w.heap.size _ _ (by simp) S.size (boxM.new S cs t) (H.put _ hd))

theorem list_alloc {d t : Nat} {cs : List Value} (H : Fr N L a) (hd : Nat.blt d N.n = true) (S : St w0 F0 R w) (hz : Zero P t cs)
    (k : ∀ b w' a', b < w'.heap.size → w0.heap.size ≤ b → St w0 F0 (boxM b t cs :: R) w' → Fr N ((d, .pointer (some ⟨b, 0, none⟩)) :: L) a' → wpList P ops Q rest a' w') :
    wpList P ops Q (⟨some d, .alloc t, ty, pos, af, none⟩ :: rest) a w := by
  refine wpList_plain rfl fun K hK => ?_
  unfold Oper.wp
  unfold Zero at hz
  cases hi : P.info? t with
  | none => rw [hi] at hz; simp at hz
  | some i =>
    rw [hi] at hz
    simp at hz
    obtain ⟨z, hz1, hz2⟩ := hz
    have hz3 : z.cells = cs.toArray := by rw [← hz2, Array.toArray_toList]
    have e : (execOp a.eval ⟨some d, .alloc t, ty, pos, af, none⟩).run P w = .ok (.value (.pointer (some ⟨w.heap.size, 0, none⟩))) (w.alloc (.cells cs.toArray t)) := by
      simp [execOp, Instr.alloc, zeroValue, typeInfo, hi, hz1, newVar, newRow, newObj, hz3, Sem.run]
    rw [e]
    exact hK _ _ (k w.heap.size _ _ (by simp) S.size (boxM.new S cs t) (H.put _ hd))

theorem setRow_keeps (w : World) (g : Nat) (cs : Array Value) : Keeps w (w.setRow g cs) (fun k => k = g) :=
  ⟨rfl, rfl, rfl, by simp, fun k _ hk => setRow_other w g k _ (fun e => hk e)⟩

theorem run_storeVar {t b o : Nat} {v : Value} {vs : List Value} {cur : Array Value} {e : TypeId} (hs : Sz P t vs.length) (hv : v.cells = vs.toArray) (hg : w.heap[b]? = some (.cells cur e (0, 0)))
    (hle : o + vs.length ≤ cur.size) (h1 : ∀ u ∈ vs, u.oneCell' = true) :
    (Instr.storeAt t (.pointer (some ⟨b, o, none⟩)) v).run P w = .ok () (w.setRow b (splice cur.toList o vs).toArray) := by
  have h := run_storeCells_at P b o e vs 0 cur w hg (by simpa using hle) h1
  simp only [Nat.add_zero] at h
  rw [splice_eq _ _ _ (by simpa using hle)]
  simp [Instr.storeAt, Instr.sureAddr, storeVar, hs.run, hv, h]

/-- A store into a box. -/
theorem list_store {t b off i : Nat} {bt : TypeId} {x y : Operand} {v : Value} {vs cs : List Value} (H : Fr N L a) (S : St w0 F0 R w) (hi : R[i]? = some (boxM b bt cs))
    (hx : ev L x = some (.pointer (some ⟨b, off, none⟩))) (hy : ev L y = some v) (hv : v.cells = vs.toArray) (hs : Sz P t vs.length) (hle : Nat.ble (off + vs.length) cs.length = true) (h1 : vs.all (fun u => u.oneCell') = true)
    (k : ∀ w' a', St w0 F0 (R.set i (boxM b bt (splice cs off vs))) w' → Fr N L a' → wpList P ops Q rest a' w') :
    wpList P ops Q (⟨none, .store t x y, ty, pos, af, none⟩ :: rest) a w := by
  refine wpList_plain rfl fun K hK => ?_
  unfold Oper.wp
  have hle' : off + vs.length ≤ cs.length := by simpa using hle
  have hr := run_storeVar (P := P) (w := w) hs hv (S.holds hi) (by simpa using hle') (fun u hu => by simpa using List.all_eq_true.1 h1 u hu)
  have e : (execOp a.eval ⟨none, .store t x y, ty, pos, af, none⟩).run P w = .ok .skip (w.setRow b (splice cs off vs).toArray) := by
    simp [execOp, H.eval hx, H.eval hy, hr]
  rw [e]
  refine hK _ _ (k _ _ (S.updSame hi (setRow_keeps w b _) ?_ (fun _ h => h)) (H.put_none _))
  exact setRow_heap w b _ _ bt (0, 0) (S.holds hi)

/-- The cells of one element turned. -/
def cput (cell : Nat → Nat → Value) (k j : Nat) (v : Value) : Nat → Nat → Value := fun k' j' => if k' = k ∧ j' = j then v else cell k' j'
theorem flat_ne {sz k j k' j' : Nat} (hj : j < sz) (hj' : j' < sz) (h : ¬ (k' = k ∧ j' = j)) : k * sz + j ≠ k' * sz + j' := by
  intro e
  apply h
  have h1 : (k * sz + j) / sz = k := by rw [Nat.add_comm, Nat.add_mul_div_right _ _ (by omega), Nat.div_eq_of_lt hj]; omega
  have h2 : (k' * sz + j') / sz = k' := by rw [Nat.add_comm, Nat.add_mul_div_right _ _ (by omega), Nat.div_eq_of_lt hj']; omega
  have : k = k' := by rw [← h1, e, h2]
  subst this
  omega

/-- A store of one cell into an owned slice. -/
theorem list_store_own {t e sz i kk j n c : Nat} {A : Option Addr} {cell : Nat → Nat → Value} {x y : Operand} {v : Value} (H : Fr N L a) (S : St w0 F0 R w) (hi : R[i]? = some (ownM e sz A n c cell))
    (hx : ev L x = some (.pointer (some (pt A sz kk j)))) (hy : ev L y = some v) (hk : kk < n) (hj : j < sz) (hs : Sz P t 1) (h1 : v.oneCell' = true)
    (k : ∀ w' a', St w0 F0 (R.set i (ownM e sz A n c (cput cell kk j v))) w' → Fr N L a' → wpList P ops Q rest a' w') :
    wpList P ops Q (⟨none, .store t x y, ty, pos, af, none⟩ :: rest) a w := by
  refine wpList_plain rfl fun K hK => ?_
  unfold Oper.wp
  rcases S.holds hi with ⟨_, h, _⟩ | ⟨b, cs, rfl, hb, hnc, hcm, hsz, hc⟩
  · omega
  have hv : v.cells = [v].toArray := by cases v <;> first | rfl | simp [Value.oneCell'] at h1
  have hlt : kk * sz + j < cs.size := by
    rw [hsz]
    have : (kk + 1) * sz ≤ c * sz := Nat.mul_le_mul_right _ (by omega)
    rw [Nat.add_mul] at this
    omega
  have hp : pt (some ⟨b, 0, none⟩) sz kk j = ⟨b, kk * sz + j, none⟩ := by simp [pt, adr]
  rw [hp] at hx
  have hr := run_storeVar (P := P) (w := w) (t := t) (b := b) (o := kk * sz + j) (v := v) (vs := [v]) (by simpa using hs) hv hb (by simp; omega) (by simpa using h1)
  have e1 : (execOp a.eval ⟨none, .store t x y, ty, pos, af, none⟩).run P w = .ok .skip (w.setRow b (splice cs.toList (kk * sz + j) [v]).toArray) := by
    simp [execOp, H.eval hx, H.eval hy, hr]
  rw [e1]
  refine hK _ _ (k _ _ (S.updSame hi ((setRow_keeps w b _).mono ?_) ?_ (fun _ h => h)) (H.put_none _))
  · rintro q rfl; exact ⟨_, rfl, rfl⟩
  · refine .inr ⟨b, _, rfl, setRow_heap w b _ _ e (0, 0) hb, hnc, hcm, ?_, ?_⟩
    · rw [List.size_toArray, splice_length _ _ _ (by simp; omega)]; simpa using hsz
    · intro k' j' hk' hj'
      rw [List.getElem?_toArray, splice_eq _ _ _ (by simp; omega)]
      have hk2 : k' * sz + j' < cs.size := by
        rw [hsz]
        have : (k' + 1) * sz ≤ c * sz := Nat.mul_le_mul_right _ (by omega)
        rw [Nat.add_mul] at this
        omega
      by_cases hh : k' = kk ∧ j' = j
      · obtain ⟨rfl, rfl⟩ := hh
        rw [List.append_assoc, List.getElem?_append_right (by simp; omega)]
        simp [cput, Nat.min_eq_left (Nat.le_of_lt hk2)]
      · have hne := flat_ne hj hj' hh
        have hcell := hc k' j' hk' hj'
        have : cput cell kk j v k' j' = cell k' j' := by simp [cput, hh]
        rw [this, ← hcell]
        rcases Nat.lt_or_ge (k' * sz + j') (kk * sz + j) with h | h
        · rw [List.append_assoc, List.getElem?_append_left (by simp; omega), List.getElem?_take_of_lt h]; simp
        · have h' : kk * sz + j < k' * sz + j' := by omega
          rw [List.getElem?_append_right (by simp; omega), List.getElem?_drop]
          simp only [List.length_append, List.length_take, List.length_cons, List.length_nil, Array.length_toList]
          rw [Nat.min_eq_left (by omega)]
          rw [show kk * sz + j + (0 + 1) + (k' * sz + j' - (kk * sz + j + (0 + 1))) = k' * sz + j' by omega]
          simp

theorem St.newNil (S : St w0 F0 R w) (e sz : Nat) (cell : Nat → Nat → Value) : St w0 F0 (ownM e sz none 0 0 cell :: R) w :=
  S.new (Keeps.refl _ _) (.inl ⟨rfl, rfl, rfl⟩) fun k ⟨_, h, _⟩ => by cases h

/-- make([]T, n). -/
theorem list_make {d t e sz by_ : Nat} {x y : Operand} {n : Nat} {zs : List Value} (H : Fr N L a) (hd : Nat.blt d N.n = true) (S : St w0 F0 R w) (ht : SlT P t e) (hs : Sz P e sz) (hz : Zero P e zs) (hby : Bytes P e by_) (hzs : zs.length = sz) (hpos : 0 < sz)
    (hx : ev L x = some (.int .i64 (n : Int))) (hy : ev L y = some (.int .i64 (n : Int))) (hn : by_ * n ≤ 140737488355328) (hn2 : n ≤ 9223372036854775807)
    (k : ∀ A w' a', (0 < n → A = some ⟨(adr A).block, (adr A).off, none⟩) → St w0 F0 (ownM e sz A n n (fun _ j => zs.getD j undef) :: R) w' → Fr N ((d, .slice A n n) :: L) a' → wpList P ops Q rest a' w') :
    wpList P ops Q (⟨some d, .makeSlice t x y, ty, pos, af, none⟩ :: rest) a w := by
  refine wpList_plain rfl fun K hK => ?_
  unfold Oper.wp
  unfold Zero at hz
  unfold Sz at hs
  unfold Bytes at hby
  cases hi : P.info? e with
  | none => rw [hi] at hz; simp at hz
  | some i =>
    rw [hi] at hz hs hby
    simp at hz hs hby
    obtain ⟨z, hz1, hz2⟩ := hz
    have hz3 : z.cells = zs.toArray := by rw [← hz2, Array.toArray_toList]
    have hb1 : (i.bytes : Int) * (n : Int) ≤ 281474976710656 := by
      rw [hby]
      have : ((by_ * n : Nat) : Int) ≤ 140737488355328 := by omega
      rw [Int.natCast_mul] at this
      omega
    have hr := run_make (P := P) w t e i z ht hi hz1 .i64 .i64 (n : Int) (n : Int) (by omega) (Int.le_refl _) hb1 (by omega)
    simp only [Int.toNat_natCast, hs, hz3] at hr
    have e1 : (execOp a.eval ⟨some d, .makeSlice t x y, ty, pos, af, none⟩).run P w = .ok (.value (.slice (some ⟨w.heap.size, 0, none⟩) n n)) (w.alloc (.cells (madeCells zs.toArray (n * sz)) e)) := by
      simp [execOp, H.eval hx, H.eval hy, hr]
    rw [e1]
    refine hK _ _ (k (some ⟨w.heap.size, 0, none⟩) _ _ (fun _ => rfl) (S.alloc _ _ (.inr ⟨w.heap.size, _, rfl, heap_alloc_new w _, Nat.le_refl _, by simp only [maxLen]; omega, size_madeCells _ _, ?_⟩) ?_) (H.put _ hd))
    · intro k' j' hk' hj'
      have hlt : k' * sz + j' < n * sz := by
        have : (k' + 1) * sz ≤ n * sz := Nat.mul_le_mul_right _ (by omega)
        rw [Nat.add_mul] at this
        omega
      have hm : (k' * sz + j') % sz = j' := by rw [Nat.add_comm, Nat.add_mul_mod_self_right, Nat.mod_eq_of_lt hj']
      simp only [madeCells, Array.getElem?_map]
      rw [Array.getElem?_range, if_pos hlt]
      simp only [Option.map_some, List.size_toArray, hzs, hm, Option.some.injEq]
      rw [List.getD_eq_getElem?_getD, List.getElem?_eq_getElem (by omega)]
      simp [hzs, hj']
    · rintro q ⟨_, h, rfl⟩; cases h; rfl

theorem fold_set : ∀ (vs : List Value) (k off : Nat) (cs : Array Value) (i : Nat), off + k + vs.length ≤ cs.size →
    ((vs.zipIdx k).foldl (fun (cs : Array Value) (p : Value × Nat) => cs.setIfInBounds (off + p.2) p.1) cs)[i]? = (if off + k ≤ i ∧ i < off + k + vs.length then vs[i - (off + k)]? else cs[i]?) := by
  intro vs
  induction vs with
  | nil => intro k off cs i _; simp; intro h1 h2; omega
  | cons v vs ih =>
    intro k off cs i h
    simp only [List.length_cons] at h
    simp only [List.zipIdx_cons, List.foldl_cons, List.length_cons]
    rw [ih (k + 1) off _ i (by simp; omega)]
    by_cases h1 : off + (k + 1) ≤ i ∧ i < off + (k + 1) + vs.length
    · rw [if_pos h1, if_pos (by omega)]
      rw [show i - (off + k) = (i - (off + (k + 1))) + 1 by omega]
      simp
    · rw [if_neg h1]
      by_cases h2 : i = off + k
      · subst h2
        have hlt : off + k < cs.size := by omega
        rw [if_pos (by omega)]
        simp [hlt]
      · rw [if_neg (by omega), Array.getElem?_setIfInBounds_ne (by omega)]

theorem fold_size : ∀ (vs : List Value) (k off : Nat) (cs : Array Value), ((vs.zipIdx k).foldl (fun (cs : Array Value) (p : Value × Nat) => cs.setIfInBounds (off + p.2) p.1) cs).size = cs.size := by
  intro vs
  induction vs with
  | nil => intro k off cs; rfl
  | cons v vs ih => intro k off cs; simp only [List.zipIdx_cons, List.foldl_cons]; rw [ih]; simp

def numberO : Nat → List Operand → List (Nat × Operand)
  | _, [] => []
  | i, x :: xs => (i, x) :: numberO (i + 1) xs

def numberV : Nat → List Value → List (Nat × Value)
  | _, [] => []
  | i, x :: xs => (i, x) :: numberV (i + 1) xs

theorem fill_all {sz : Nat} : ∀ (vs : List Value) (css : List (List Value)) (i0 : Nat) (cs : Array Value), vs.map (fun v => v.cells.toList) = css → (∀ c ∈ css, c.length = sz) → (i0 + vs.length) * sz ≤ cs.size →
    ∃ cs', Instr.fill (fun i => some (i * sz, sz)) cs (numberV i0 vs) = some cs' ∧ cs'.size = cs.size ∧
      ∀ k j, j < sz → cs'[k * sz + j]? = (if i0 ≤ k ∧ k < i0 + vs.length then some ((css.getD (k - i0) []).getD j undef) else cs[k * sz + j]?) := by
  intro vs
  induction vs with
  | nil => intro css i0 cs _ _ _; exact ⟨cs, rfl, rfl, fun k j _ => by rw [if_neg (by simp)]⟩
  | cons v vs ih =>
    intro css i0 cs hcss hall hle
    cases css with
    | nil => simp at hcss
    | cons c css =>
      simp only [List.map_cons, List.cons.injEq] at hcss
      obtain ⟨hc, hcss⟩ := hcss
      have hcl : c.length = sz := hall c (List.mem_cons_self ..)
      have hvs : v.cells.size = sz := by rw [← hcl, ← hc]; simp
      simp only [List.length_cons] at hle
      have hle1 : i0 * sz + sz ≤ cs.size := by
        have : (i0 + 1) * sz ≤ (i0 + (vs.length + 1)) * sz := Nat.mul_le_mul_right _ (by omega)
        rw [Nat.add_mul] at this
        omega
      let cs1 := (c.zipIdx 0).foldl (fun (cs : Array Value) (p : Value × Nat) => cs.setIfInBounds (i0 * sz + p.2) p.1) cs
      have hs1 : cs1.size = cs.size := fold_size c 0 (i0 * sz) cs
      obtain ⟨cs', h1, h2, h3⟩ := ih css (i0 + 1) cs1 hcss (fun x hx => hall x (List.mem_cons_of_mem _ hx)) (by rw [hs1, show i0 + 1 + vs.length = i0 + (vs.length + 1) by omega]; exact hle)
      refine ⟨cs', ?_, by rw [h2, hs1], ?_⟩
      · simp only [numberV, Instr.fill]
        rw [if_neg (by simp [hvs]; omega)]
        have e : v.cells.zipIdx.foldl (fun (cs : Array Value) (x : Value × Nat) => cs.setIfInBounds (i0 * sz + x.2) x.1) cs = cs1 := by
          rw [← Array.foldl_toList, Array.toList_zipIdx, hc]
        exact (congrArg (fun q => Instr.fill (fun i => some (i * sz, sz)) q (numberV (i0 + 1) vs)) e).trans h1
      · intro k j hj
        rw [h3 k j hj]
        by_cases hk : i0 + 1 ≤ k ∧ k < i0 + 1 + vs.length
        · rw [if_pos hk, if_pos (by simp; omega)]
          rw [show k - i0 = (k - (i0 + 1)) + 1 by omega]
          simp
        · rw [if_neg hk]
          have hf := fold_set c 0 (i0 * sz) cs (k * sz + j) (by rw [hcl]; omega)
          simp only [Nat.add_zero] at hf
          show cs1[k * sz + j]? = _
          rw [hf]
          by_cases hki : k = i0
          · subst hki
            rw [if_pos (by omega), if_pos (by simp)]
            have : k * sz + j - k * sz = j := by omega
            rw [this, List.getElem?_eq_getElem (by omega)]
            simp [hcl, hj]
          · have hne : ¬ (i0 * sz ≤ k * sz + j ∧ k * sz + j < i0 * sz + c.length) := by
              rw [hcl]
              rintro ⟨ha, hb⟩
              rcases Nat.lt_or_ge k i0 with h | h
              · have : (k + 1) * sz ≤ i0 * sz := Nat.mul_le_mul_right _ (by omega)
                rw [Nat.add_mul] at this; omega
              · have : (i0 + 1) * sz ≤ k * sz := Nat.mul_le_mul_right _ (by omega)
                rw [Nat.add_mul] at this; omega
            rw [if_neg hne, if_neg (by simp; omega)]

/-- A slice's literal, each element written. -/
theorem list_build {d t e sz len : Nat} {parts : Array (Nat × Operand)} {xs : List Operand} {vs : List Value} {css : List (List Value)} {zs : List Value} (H : Fr N L a) (hd : Nat.blt d N.n = true) (S : St w0 F0 R w) (ht : SlT P t e) (hs : Sz P e sz) (hz : Zero P e zs) (hzs : Nat.beq zs.length sz = true) (hpos : Nat.blt 0 sz = true)
    (hparts : parts.toList = numberO 0 xs) (hxs : evs L xs = some vs) (hlen : len = vs.length) (hlp : Nat.blt 0 len = true) (hcss : vs.map (fun v => v.cells.toList) = css) (hall : css.all (fun c => Nat.beq c.length sz) = true) (hsm : Nat.ble (len * sz) 16777216 = true)
    (k : ∀ A w' a', (0 < len → A = some ⟨(adr A).block, (adr A).off, none⟩) → St w0 F0 (ownM e sz A len len (fun k j => (css.getD k []).getD j undef) :: R) w' → Fr N ((d, .slice A len len) :: L) a' → wpList P ops Q rest a' w') :
    wpList P ops Q (⟨some d, .buildSlice t len parts, ty, pos, af, none⟩ :: rest) a w := by
  refine wpList_plain rfl fun K hK => ?_
  unfold Oper.wp
  have hzs' : zs.length = sz := Nat.eq_of_beq_eq_true hzs
  have hpos' : 0 < sz := by simpa using hpos
  have hsm' : len * sz ≤ 16777216 := by simpa using hsm
  have hlp' : 0 < len := by simpa using hlp
  unfold Zero at hz
  cases hi : P.info? e with
  | none => rw [hi] at hz; simp at hz
  | some i =>
    rw [hi] at hz
    simp at hz
    obtain ⟨z, hz1, hz2⟩ := hz
    obtain ⟨cs', hf1, hf2, hf3⟩ := fill_all (sz := sz) vs css 0 ((Array.range (len * sz)).map (z.cells[· % z.cells.size]!)) hcss (fun c hc => Nat.eq_of_beq_eq_true (by simpa using List.all_eq_true.1 hall c hc)) (by simp [← hlen])
    have hne : ¬ len * sz = 0 := by have := Nat.mul_pos hlp' hpos'; omega
    have hpv : (parts.map fun (p : Nat × Operand) => (p.1, a.eval p.2)).toList = numberV 0 vs := by
      rw [Array.toList_map, hparts]
      have key : ∀ (xs : List Operand) (vs : List Value) (i : Nat), evs L xs = some vs → (numberO i xs).map (fun (p : Nat × Operand) => (p.1, a.eval p.2)) = numberV i vs := by
        intro xs
        induction xs with
        | nil => intro vs i h; simp only [evs, Option.some.injEq] at h; subst h; rfl
        | cons x xs ih =>
          intro vs i h
          simp only [evs] at h
          split at h
          · rename_i v hv
            split at h
            · rename_i us hus
              simp only [Option.some.injEq] at h
              subst h
              simp only [numberO, numberV, List.map_cons, H.eval hv, ih _ _ hus]
            · cases h
          · cases h
      exact key xs vs 0 hxs
    have e1 : (execOp a.eval ⟨some d, .buildSlice t len parts, ty, pos, af, none⟩).run P w = .ok (.value (.slice (some ⟨w.heap.size, 0, none⟩) len len)) (w.alloc (.cells cs' e)) := by
      have hpv' : (parts.map fun (p : Nat × Operand) => (p.1, a.eval p.2)) = (numberV 0 vs).toArray := by rw [← hpv]
      simp only [execOp]
      have : (Instr.buildSlice t len (parts.map fun (p : Nat × Operand) => (p.1, a.eval p.2))).run P w = .ok (.slice (some ⟨w.heap.size, 0, none⟩) len len) (w.alloc (.cells cs' e)) := by
        rw [hpv']
        have hnl : ¬ (16777216 < len * sz) := by omega
        simp [Instr.buildSlice, run_und ht, hs.run, hnl, hne, zeroValue, typeInfo, hi, hz1, hf1, newRow, newObj, Sem.run]
      simp [this]
    rw [e1]
    refine hK _ _ (k (some ⟨w.heap.size, 0, none⟩) _ _ (fun _ => rfl) (S.alloc _ _ (.inr ⟨w.heap.size, cs', rfl, heap_alloc_new w _, Nat.le_refl _, ?_, ?_, ?_⟩) ?_) (H.put _ hd))
    · simp only [maxLen]
      have : len * 1 ≤ len * sz := Nat.mul_le_mul_left _ hpos'
      omega
    · rw [hf2]; simp
    · intro k' j' hk' hj'
      rw [hf3 k' j' hj', if_pos (by omega)]
      simp
    · rintro q ⟨_, h, rfl⟩; cases h; rfl

theorem list_build' {d t e sz len : Nat} {parts : Array (Nat × Operand)} {vs : List Value} {css : List (List Value)} {zs : List Value} (H : Fr N L a) (hd : Nat.blt d N.n = true) (S : St w0 F0 R w) (ht : SlT P t e) (hs : Sz P e sz) (hz : Zero P e zs) (hzs : Nat.beq zs.length sz = true) (hpos : Nat.blt 0 sz = true)
    (hparts : parts.toList = numberO 0 (parts.toList.map (·.2))) (hxs : evs L (parts.toList.map (·.2)) = some vs) (hlen : len = vs.length) (hlp : Nat.blt 0 len = true) (hcss : vs.map (fun v => v.cells.toList) = css) (hall : css.all (fun c => Nat.beq c.length sz) = true) (hsm : Nat.ble (len * sz) 16777216 = true)
    (k : ∀ A w' a', (0 < len → A = some ⟨(adr A).block, (adr A).off, none⟩) → St w0 F0 (ownM e sz A len len (fun k j => (css.getD k []).getD j undef) :: R) w' → Fr N ((d, .slice A len len) :: L) a' → wpList P ops Q rest a' w') :
    wpList P ops Q (⟨some d, .buildSlice t len parts, ty, pos, af, none⟩ :: rest) a w :=
  list_build H hd S ht hs hz hzs hpos hparts hxs hlen hlp hcss hall hsm k

/-! ## append -/
def flat (sz n : Nat) (cell : Nat → Nat → Value) : List Value := (List.range (n * sz)).map fun i => cell (i / sz) (i % sz)

theorem flat_get {sz n k j : Nat} {cell : Nat → Nat → Value} (hk : k < n) (hj : j < sz) : (flat sz n cell)[k * sz + j]? = some (cell k j) := by
  have hlt : k * sz + j < n * sz := by
    have : (k + 1) * sz ≤ n * sz := Nat.mul_le_mul_right _ (by omega)
    rw [Nat.add_mul] at this
    omega
  have h1 : (k * sz + j) / sz = k := by rw [Nat.add_comm, Nat.add_mul_div_right _ _ (by omega), Nat.div_eq_of_lt hj]; omega
  have h2 : (k * sz + j) % sz = j := by rw [Nat.add_comm, Nat.add_mul_mod_self_right, Nat.mod_eq_of_lt hj]
  simp [flat, hlt, h1, h2]

theorem owns_of {e sz n c : Nat} {A : Option Addr} {cell : Nat → Nat → Value} (hpos : 0 < sz) (h : (ownM e sz A n c cell).holds w) : w.ownsRow 0 e sz (.slice A n c) n (flat sz n cell) := by
  refine ⟨by simp [flat], ?_⟩
  rcases h with ⟨rfl, rfl, rfl⟩ | ⟨b, cs, rfl, hb, hnc, hcm, hsz, hc⟩
  · exact .inl ⟨rfl, rfl⟩
  · refine .inr ⟨b, c, cs, rfl, Nat.zero_le _, hb, hnc, hcm, hsz, ?_⟩
    apply List.ext_getElem?
    intro i
    have hle : n * sz ≤ cs.size := by rw [hsz]; exact Nat.mul_le_mul_right _ hnc
    rw [List.getElem?_take]
    by_cases hi : i < n * sz
    · rw [if_pos hi]
      have hk : i / sz < n := (Nat.div_lt_iff_lt_mul hpos).2 hi
      have hj : i % sz < sz := Nat.mod_lt _ hpos
      have he : i / sz * sz + i % sz = i := by rw [Nat.mul_comm]; exact Nat.div_add_mod i sz
      have h1 := hc (i / sz) (i % sz) hk hj
      have h2 := flat_get (cell := cell) hk hj
      rw [he] at h1 h2
      rw [h2, ← h1]
      simp
    · rw [if_neg hi, List.getElem?_eq_none (by simp [flat]; omega)]

theorem of_owns {e sz n : Nat} {v : Value} {xs : List Value} {cell : Nat → Nat → Value} (h : w.ownsRow 0 e sz v n xs) (hx : ∀ k j, k < n → j < sz → xs[k * sz + j]? = some (cell k j)) :
    ∃ A c, v = .slice A n c ∧ (ownM e sz A n c cell).holds w ∧ v.ownBlock = A.map (·.block) := by
  rcases h.2 with ⟨rfl, rfl⟩ | ⟨g, cap, cur, rfl, _, hg, hnc, hcm, hsz, htake⟩
  · exact ⟨none, 0, rfl, .inl ⟨rfl, rfl, rfl⟩, rfl⟩
  · refine ⟨some ⟨g, 0, none⟩, cap, rfl, .inr ⟨g, cur, rfl, hg, hnc, hcm, hsz, ?_⟩, rfl⟩
    intro k j hk hj
    have h1 := hx k j hk hj
    have hlt : k * sz + j < n * sz := by
      have : (k + 1) * sz ≤ n * sz := Nat.mul_le_mul_right _ (by omega)
      rw [Nat.add_mul] at this
      omega
    rw [← htake, List.getElem?_take, if_pos hlt] at h1
    simpa using h1

theorem run_app_nil (base : Nat) (t ty e : TypeId) (i : TypeInfo) (size : Nat) (ht : P.underlying t = some (.slice e)) (hi : P.info? e = some i)
    (v : Value) (n : Nat) (xs : List Value) (hown : w.ownsRow base e size v n xs) (A : Option Addr) (hA : A = none) (c : Nat) : (Builtin.append_ #[t, t] ty #[v, .slice A 0 c]).run P w = .ok v w := by
  subst hA
  rcases hown.2 with ⟨rfl, rfl⟩ | ⟨g, cap, cur, rfl, _, _, hnc, _⟩
  · simp [Builtin.append_, run_underlying ht, sizeOf, typeInfo, hi, Builtin.lenOf, Builtin.firstCells]
  · simp [Builtin.append_, run_underlying ht, sizeOf, typeInfo, hi, Builtin.lenOf, Builtin.firstCells, hnc, storeCells]

/-- The cells of an appended slice. -/
def capp (n : Nat) (cell cell' : Nat → Nat → Value) : Nat → Nat → Value := fun k j => if k < n then cell k j else cell' (k - n) j

theorem run_app {t e sz by_ : Nat} {zs : List Value} {A B : Option Addr} {n c m c' : Nat} {cell cell' : Nat → Nat → Value} (ht : SlT P t e) (hs : Sz P e sz) (hz : Zero P e zs) (hby : Bytes P e by_) (hzs : zs.length = sz) (hpos : 0 < sz)
    (h : (ownM e sz A n c cell).holds w) (hB : InS w noF sz B m cell') (hone : ∀ k j, k < m → j < sz → (cell' k j).oneCell' = true) (hlen : (n + m) * by_ ≤ 140737488355328) (hlen2 : n + m ≤ 9223372036854775807) (ty : TypeId) :
    ∃ A' c1 w', (Builtin.append_ #[t, t] ty #[.slice A n c, .slice B m c']).run P w = .ok (.slice A' (n + m) c1) w' ∧ (ownM e sz A' (n + m) c1 (capp n cell cell')).holds w' ∧ Keeps w w' (ownM e sz A n c cell).fp ∧
      (∀ k, (ownM e sz A' (n + m) c1 (capp n cell cell')).fp k → (ownM e sz A n c cell).fp k ∨ (w.heap.size ≤ k ∧ k < w'.heap.size)) := by
  unfold Zero at hz
  unfold Sz at hs
  unfold Bytes at hby
  have hown := owns_of hpos h
  have hfl : ∀ k j, k < n + m → j < sz → (flat sz n cell ++ flat sz m cell')[k * sz + j]? = some (capp n cell cell' k j) := by
    intro k j hk hj
    have hl : (flat sz n cell).length = n * sz := by simp [flat]
    unfold capp
    by_cases hkn : k < n
    · rw [if_pos hkn]
      have hlt : k * sz + j < n * sz := by
        have : (k + 1) * sz ≤ n * sz := Nat.mul_le_mul_right _ (by omega)
        rw [Nat.add_mul] at this
        omega
      rw [List.getElem?_append_left (by omega)]
      exact flat_get hkn hj
    · rw [if_neg hkn]
      have hge : n * sz ≤ k * sz := Nat.mul_le_mul_right _ (by omega)
      rw [List.getElem?_append_right (by omega), hl]
      have : k * sz + j - n * sz = (k - n) * sz + j := by rw [Nat.sub_mul]; omega
      rw [this]
      exact flat_get (by omega) hj
  cases hi : P.info? e with
  | none => rw [hi] at hz; simp at hz
  | some i =>
    rw [hi] at hz hs hby
    simp at hz hs hby
    obtain ⟨z, hz1, hz2⟩ := hz
    have hzsz : z.cells.size = sz := by rw [← hzs, ← hz2]; simp
    have hblk : (Value.slice A n c).ownBlock = A.map (·.block) := by cases A <;> rfl
    rcases B with _ | ad
    · have hm : m = 0 := by
        rcases Nat.eq_zero_or_pos m with h0 | h0
        · exact h0
        · obtain ⟨b, o, hA, _⟩ := hB h0; cases hA
      subst hm
      have hr := run_app_nil (P := P) (w := w) 0 t ty e i sz ht hi _ n _ hown none rfl c'
      refine ⟨A, c, w, hr, ?_, Keeps.refl _ _, fun k hk => .inl hk⟩
      rcases h with ⟨h1, h2, h3⟩ | ⟨b, cs, h1, h2, h3, h4, h5, h6⟩
      · exact .inl ⟨h1, h2, h3⟩
      · exact .inr ⟨b, cs, h1, h2, h3, h4, h5, fun k j hk hj => by rw [h6 k j hk hj]; simp [capp]; intro hh; omega⟩
    · have hnews : ∀ (j : Nat) u, (flat sz m cell')[j]? = some u → w.cell? (ad.add j) = some u := by
        intro j u hu
        have hjl : j < m * sz := by
          have := (List.getElem?_eq_some_iff.1 hu).1
          simpa [flat] using this
        have hm0 : 0 < m := by
          rcases Nat.eq_zero_or_pos m with h0 | h0
          · subst h0; omega
          · exact h0
        obtain ⟨b, o, hA, _, _, hc⟩ := hB hm0
        injection hA with hA
        subst hA
        rw [add_lit]
        have hk : j / sz < m := (Nat.div_lt_iff_lt_mul hpos).2 hjl
        have hj : j % sz < sz := Nat.mod_lt _ hpos
        have he : j / sz * sz + j % sz = j := by rw [Nat.mul_comm]; exact Nat.div_add_mod j sz
        have h1 := hc _ _ hk hj
        have h2 := flat_get (cell := cell') hk hj
        rw [he, hu, Option.some.injEq] at h2
        rw [Nat.add_assoc, he] at h1
        rw [h1, h2]
      have hone' : ∀ u ∈ flat sz m cell', u.oneCell' = true := by
        intro u hu
        simp only [flat, List.mem_map, List.mem_range] at hu
        obtain ⟨q, hq, rfl⟩ := hu
        exact hone _ _ ((Nat.div_lt_iff_lt_mul hpos).2 hq) (Nat.mod_lt _ hpos)
      obtain ⟨v', w', h1, h2, h3, _, h5⟩ := run_append_own_at (P := P) w 0 t ty e i z sz by_ ht hi hz1 hs hby hzsz hpos _ n _ hown ad m c' (flat sz m cell') (by simp [flat]) hnews hone' (by simp only [maxLen]; omega) hlen (Nat.zero_le _)
      obtain ⟨A', c1, rfl, h6, h7⟩ := of_owns (cell := capp n cell cell') h2 hfl
      refine ⟨A', c1, w', h1, h6, ?_, ?_⟩
      · refine (Keeps.of_grown h3).mono fun k hk => ?_
        cases A with
        | none => cases hk
        | some aa => exact ⟨aa, rfl, by simpa [Value.ownBlock] using hk⟩
      · rintro k ⟨aa, rfl, rfl⟩
        rcases h5 with h5 | h5
        · rw [hblk] at h5
          cases A with
          | none => simp [Value.ownBlock] at h5
          | some a0 =>
            refine .inl ⟨a0, rfl, ?_⟩
            simpa [Value.ownBlock] using h5.symm
        · refine .inr ?_
          have e1 : aa.block = w.heap.size := by simpa [Value.ownBlock] using h5
          have e2 := h2.lt aa.block (by simp [Value.ownBlock])
          exact ⟨by omega, e2.2⟩

/-- append(s, x...) onto an owned slice. -/
theorem list_append {d t e sz by_ i n c m c' : Nat} {x y : Operand} {zs : List Value} {A B : Option Addr} {cell cell' : Nat → Nat → Value} (H : Fr N L a) (hd : Nat.blt d N.n = true) (S : St w0 F0 R w) (ht : SlT P t e) (hs : Sz P e sz) (hz : Zero P e zs) (hby : Bytes P e by_) (hzs : Nat.beq zs.length sz = true) (hpos : Nat.blt 0 sz = true)
    (hi : R[i]? = some (ownM e sz A n c cell)) (hx : ev L x = some (.slice A n c)) (hy : ev L y = some (.slice B m c')) (hB : InS w noF sz B m cell') (hone : ∀ k j, k < m → j < sz → (cell' k j).oneCell' = true)
    (hlen : (n + m) * by_ ≤ 140737488355328)  (hlen2 : n + m ≤ 9223372036854775807)
    (k : ∀ A' c1 w' a', St w0 F0 (R.set i (ownM e sz A' (n + m) c1 (capp n cell cell'))) w' → Fr N ((d, .slice A' (n + m) c1) :: L) a' → wpList P ops Q rest a' w') :
    wpList P ops Q (⟨some d, .call ⟨.builtin .append, #[x, y], #[t, t]⟩, ty, pos, af, none⟩ :: rest) a w := by
  refine wpList_plain rfl fun K hK => ?_
  unfold Oper.wp
  obtain ⟨A', c1, w', h1, h2, h3, h4⟩ := run_app (P := P) (w := w) (c' := c') ht hs hz hby (Nat.eq_of_beq_eq_true hzs) (by simpa using hpos) (S.holds hi) hB hone hlen hlen2 ty
  have e1 : (execOp a.eval ⟨some d, .call ⟨.builtin .append, #[x, y], #[t, t]⟩, ty, pos, af, none⟩).run P w = .ok (.value (.slice A' (n + m) c1)) w' := by
    simp [execOp, resolve, H.eval hx, H.eval hy, invoke, builtin, h1]
  rw [e1]
  exact hK _ _ (k A' c1 _ _ (S.upd hi h3 h2 h4) (H.put _ hd))

/-! ## more operations that read: whole parts, literals of structs and arrays, conversions -/
theorem boxAgg {i b : Nat} {t : TypeId} {cs : List Value} (S : St w0 F0 R w) (hi : R[i]? = some (boxM b t cs)) : ∀ (j : Nat) v, cs[j]? = some v → w.cell? ⟨b, 0 + j, none⟩ = some v := by
  intro j v hv
  rw [Nat.zero_add]
  exact boxM.rd S hi hv

section
variable {d : Option Nat} {g : Option (Nat × Bool)}

theorem does_loadBox {x : Operand} {t n b o i : Nat} {bt : TypeId} {cs : List Value} (hA : Agg P t) (hs : Sz P t n) (hx : ev L x = some (.pointer (some ⟨b, o, none⟩))) (S : St w0 F0 R w) (hi : R[i]? = some (boxM b bt cs)) (hle : Nat.ble (o + n) cs.length = true) :
    Does P L ⟨d, .load t x, ty, pos, af, g⟩ w (.agg ((cs.drop o).take n).toArray) := by
  have hle' : o + n ≤ cs.length := by simpa using hle
  refine does_loadAgg hA (by have : ((cs.drop o).take n).length = n := by simp; omega
                             rw [this]; exact hs) hx fun j v hv => ?_
  refine boxM.rd S hi ?_
  rw [List.getElem?_take] at hv
  split at hv
  · rw [List.getElem?_drop] at hv; exact hv
  · cases hv

def cellsOf (cell : Nat → Nat → Value) (k : Nat) : Nat → Nat → List Value
  | _, 0 => []
  | j, n + 1 => cell k j :: cellsOf cell k (j + 1) n

theorem cellsOf_len (cell : Nat → Nat → Value) (k : Nat) : ∀ (n j : Nat), (cellsOf cell k j n).length = n := by
  intro n; induction n with
  | zero => intro j; rfl
  | succ n ih => intro j; simp [cellsOf, ih]

theorem cellsOf_get (cell : Nat → Nat → Value) (k : Nat) : ∀ (n j i : Nat), i < n → (cellsOf cell k j n)[i]? = some (cell k (j + i)) := by
  intro n; induction n with
  | zero => intro j i h; omega
  | succ n ih =>
    intro j i h
    cases i with
    | zero => rfl
    | succ i =>
      simp only [cellsOf, List.getElem?_cons_succ]
      rw [ih (j + 1) i (by omega)]
      congr 2; omega

theorem does_loadIn {x : Operand} {t n sz k j m : Nat} {A : Option Addr} {cell : Nat → Nat → Value} (hA : Agg P t) (hs : Sz P t n) (hx : ev L x = some (.pointer (some (pt A sz k j)))) (S : St w0 F0 R w) (hl : InS w0 F0 sz A m cell) (hk : k < m) (hj : j + n ≤ sz) :
    Does P L ⟨d, .load t x, ty, pos, af, g⟩ w (.agg (cellsOf cell k j n).toArray) := by
  refine does_loadAgg hA (by rw [cellsOf_len]; exact hs) hx fun i v hv => ?_
  have hin : i < n := by have := (List.getElem?_eq_some_iff.1 hv).1; rw [cellsOf_len] at this; exact this
  rw [cellsOf_get cell k n j i hin, Option.some.injEq] at hv
  rw [← hv, Nat.add_assoc]
  exact hl.rd S hk (by omega)

theorem does_loadOwn {x : Operand} {t n sz k j m c i : Nat} {e : TypeId} {A : Option Addr} {cell : Nat → Nat → Value} (hA : Agg P t) (hs : Sz P t n) (hx : ev L x = some (.pointer (some (pt A sz k j)))) (S : St w0 F0 R w) (hi : R[i]? = some (ownM e sz A m c cell)) (hk : k < m) (hj : j + n ≤ sz) :
    Does P L ⟨d, .load t x, ty, pos, af, g⟩ w (.agg (cellsOf cell k j n).toArray) := by
  refine does_loadAgg hA (by rw [cellsOf_len]; exact hs) hx fun q v hv => ?_
  have hin : q < n := by have := (List.getElem?_eq_some_iff.1 hv).1; rw [cellsOf_len] at this; exact this
  rw [cellsOf_get cell k n j q hin, Option.some.injEq] at hv
  rw [← hv, Nat.add_assoc]
  exact ownM.rd S hi hk (by omega)

theorem run_indexArr {t e sz len b o : Nat} {k : IntKind} {i : Int} (hu : P.underlying t = some (.array len e)) (hs : Sz P e sz) (h0 : 0 ≤ i) (hn : i < len) :
    (Instr.indexAt t (.pointer (some ⟨b, o, none⟩)) (.int k i)).run P w = .ok (.pointer (some ⟨b, o + i.toNat * sz, none⟩)) w := by
  simp [Instr.indexAt, asIntOf, run_und hu, h0, hn, hs.run, Instr.sureAddr, add_lit]

theorem does_indexArr {x i : Operand} {t e sz len b o : Nat} {k : IntKind} {j : Int} (hu : P.underlying t = some (.array len e)) (hs : Sz P e sz) (hx : ev L x = some (.pointer (some ⟨b, o, none⟩))) (hi : ev L i = some (.int k j)) (h0 : 0 ≤ j) (hn : j < len) :
    Does P L ⟨d, .indexAddr t x i, ty, pos, af, g⟩ w (.pointer (some ⟨b, o + j.toNat * sz, none⟩)) := fun ρ hρ => by
  simp [execOp, hρ _ _ hx, hρ _ _ hi, run_indexArr hu hs h0 hn]

def fillL (place : List (Nat × Nat)) : List Value → List (Nat × List Value) → Option (List Value)
  | cs, [] => some cs
  | cs, (i, vs) :: rest => match place[i]? with
    | none => none
    | some (off, size) => bif Nat.beq vs.length size && Nat.ble (off + vs.length) cs.length then fillL place (splice cs off vs) rest else none

theorem fold_splice (cs : Array Value) (off : Nat) (v : Value) (h : off + v.cells.toList.length ≤ cs.size) :
    v.cells.zipIdx.foldl (fun (cs : Array Value) (x : Value × Nat) => cs.setIfInBounds (off + x.2) x.1) cs = (splice cs.toList off v.cells.toList).toArray := by
  have e : v.cells.zipIdx.foldl (fun (cs : Array Value) (x : Value × Nat) => cs.setIfInBounds (off + x.2) x.1) cs = (v.cells.toList.zipIdx 0).foldl (fun (cs : Array Value) (p : Value × Nat) => cs.setIfInBounds (off + p.2) p.1) cs := by
    rw [← Array.foldl_toList, Array.toList_zipIdx]
  rw [e]
  apply Array.ext_getElem?
  intro i
  have hf := fold_set v.cells.toList 0 off cs i (by omega)
  rw [hf, splice_eq _ _ _ (by simpa using h)]
  simp only [Nat.add_zero, List.getElem?_toArray]
  by_cases h1 : off ≤ i ∧ i < off + v.cells.toList.length
  · rw [if_pos h1, List.append_assoc, List.getElem?_append_right (by simp; omega)]
    simp only [List.length_take, Array.length_toList]
    rw [Nat.min_eq_left (by omega), List.getElem?_append_left (by simp at h1 ⊢; omega)]
  · rw [if_neg h1]
    rcases Nat.lt_or_ge i off with h2 | h2
    · rw [List.append_assoc, List.getElem?_append_left (by simp; omega), List.getElem?_take_of_lt h2]; simp
    · have h3 : off + v.cells.toList.length ≤ i := by omega
      rw [List.getElem?_append_right (by simp at h3 ⊢; omega), List.getElem?_drop]
      simp only [List.length_append, List.length_take, Array.length_toList]
      simp at h h3
      rw [Nat.min_eq_left (by omega), show off + v.cells.size + (i - (off + v.cells.size)) = i by omega]
      simp

theorem fill_eq (place : List (Nat × Nat)) (f : Nat → Option (Nat × Nat)) (hf : ∀ i p, place[i]? = some p → f i = some p) : ∀ (parts : List (Nat × Value)) (cs cs' : List Value), fillL place cs (parts.map fun p => (p.1, p.2.cells.toList)) = some cs' →
    Instr.fill f cs.toArray parts = some cs'.toArray := by
  intro parts
  induction parts with
  | nil => intro cs cs' h; simp only [List.map_nil, fillL, Option.some.injEq] at h; subst h; rfl
  | cons p parts ih =>
    intro cs cs' h
    obtain ⟨i, v⟩ := p
    simp only [List.map_cons, fillL] at h
    simp only [Instr.fill]
    cases hp : place[i]? with
    | none => rw [hp] at h; cases h
    | some q =>
      obtain ⟨off, size⟩ := q
      rw [hp] at h
      rw [hf i _ hp]
      simp only at h ⊢
      cases hc : (Nat.beq v.cells.toList.length size && Nat.ble (off + v.cells.toList.length) cs.length)
      · rw [hc] at h; cases h
      · rw [hc] at h
        simp only [cond_true] at h
        simp only [Bool.and_eq_true] at hc
        have h1 : v.cells.size = size := by have := Nat.eq_of_beq_eq_true hc.1; simpa using this
        have h2 : off + v.cells.toList.length ≤ cs.length := by have := hc.2; simpa using this
        have hne : ¬ ((decide (v.cells.size ≠ size) || decide (off + v.cells.size > cs.toArray.size)) = true) := by
          simp [h1]; simp at h2; omega
        rw [if_neg hne, fold_splice _ _ _ (by simpa using h2)]
        exact ih _ _ h

def BuildT (P : Program) (t : Nat) (place : List (Nat × Nat)) (zs : List Value) : Prop :=
  Zero P t zs ∧ match P.underlying t with
    | some (.struct fs) => fs.toList.map (fun f => (f.offset, ((P.info? f.type).map (·.size)).getD 0)) = place ∧ (fs.toList.all fun f => (P.info? f.type).isSome) = true
    | some (.array n e) => ((P.info? e).map (·.size)).isSome = true ∧ (List.range n).map (fun i => (i * ((P.info? e).map (·.size)).getD 0, ((P.info? e).map (·.size)).getD 0)) = place ∧ place.length = n
    | _ => False

def partsEv (L : List (Nat × Value)) : List (Nat × Operand) → Option (List (Nat × List Value))
  | [] => some []
  | (i, x) :: r => match ev L x with
    | some v => match partsEv L r with
      | some q => some ((i, v.cells.toList) :: q)
      | none => none
    | none => none

theorem partsEv_eq {ρ : Operand → Value} (hρ : ∀ x u, ev L x = some u → ρ x = u) : ∀ (l : List (Nat × Operand)) (pv : List (Nat × List Value)), partsEv L l = some pv → (l.map fun p => (p.1, ρ p.2)).map (fun p => (p.1, p.2.cells.toList)) = pv := by
  intro l
  induction l with
  | nil => intro pv h; simp only [partsEv, Option.some.injEq] at h; subst h; rfl
  | cons p l ih =>
    intro pv h
    obtain ⟨i, x⟩ := p
    simp only [partsEv] at h
    split at h
    · rename_i v hv
      split at h
      · rename_i q hq
        simp only [Option.some.injEq] at h
        subst h
        simp only [List.map_cons, hρ _ _ hv, ih _ hq]
      · cases h
    · cases h

theorem run_sizes : ∀ (l : List Field), (l.all fun f => (P.info? f.type).isSome) = true →
    (l.mapM (m := Sem) fun f => do pure (f.offset, ← sizeOf f.type)).run P w = .ok (l.map (fun f => (f.offset, ((P.info? f.type).map (·.size)).getD 0))) w := by
  intro l
  induction l with
  | nil => intro _; simp
  | cons f l ih =>
    intro h
    simp only [List.all_cons, Bool.and_eq_true] at h
    cases hi : P.info? f.type with
    | none => rw [hi] at h; simp at h
    | some i =>
      have hs : (sizeOf f.type).run P w = .ok i.size w := by simp [sizeOf, typeInfo, hi]
      rw [List.mapM_cons]
      simp only [Sem.run_bind, hs, Result.andThen_ok, Sem.run_pure, ih h.2, List.map_cons, hi, Option.map_some, Option.getD_some]

theorem does_build {t : Nat} {parts : Array (Nat × Operand)} {place : List (Nat × Nat)} {zs cs : List Value} {pv : List (Nat × List Value)} (hb : BuildT P t place zs) (hp : partsEv L parts.toList = some pv) (hf : fillL place zs pv = some cs) :
    Does P L ⟨d, .build t parts, ty, pos, af, g⟩ w (.agg cs.toArray) := fun ρ hρ => by
  obtain ⟨hz, hb⟩ := hb
  have hpe := partsEv_eq hρ _ _ hp
  have hfe := fun f hff => fill_eq place f hff ((parts.toList.map fun p => (p.1, ρ p.2))) zs cs (by rw [hpe]; exact hf)
  have hpa : (parts.map fun (p : Nat × Operand) => (p.1, ρ p.2)).toList = parts.toList.map fun p => (p.1, ρ p.2) := by simp
  unfold Zero at hz
  cases hi : P.info? t with
  | none => rw [hi] at hz; simp at hz
  | some i =>
    rw [hi] at hz
    simp at hz
    obtain ⟨z, hz1, hz2⟩ := hz
    have hz3 : z.cells = zs.toArray := by rw [← hz2, Array.toArray_toList]
    cases hu : P.underlying t with
    | none => rw [hu] at hb; exact hb.elim
    | some dsc =>
      rw [hu] at hb
      have key : (Instr.build t (parts.map fun (p : Nat × Operand) => (p.1, ρ p.2))).run P w = .ok (.agg cs.toArray) w := by
        cases dsc with
        | struct fs =>
          obtain ⟨h1, h2⟩ := hb
          have hm : (fs.mapM (m := Sem) fun f => do pure (f.offset, ← sizeOf f.type)).run P w = .ok place.toArray w := by
            rw [Array.mapM_eq_mapM_toList]
            have := run_sizes (P := P) (w := w) fs.toList h2
            simp only [map_eq_pure_bind, Sem.run_bind, this, h1]
            simp
          have hfe' : Instr.fill (fun i => place.toArray[i]?) zs.toArray (parts.map fun (p : Nat × Operand) => (p.1, ρ p.2)).toList = some cs.toArray := by
            rw [hpa]
            exact hfe _ (fun i p h => by simpa using h)
          simp only [Instr.build, zeroValue, typeInfo, Sem.run_bind, run_program, Result.andThen_ok, hi, Sem.run_pure, hz1, run_und hu, hm, hz3]
          simp only [hfe']
          simp
        | array n e =>
          obtain ⟨h1, h2, h3⟩ := hb
          cases he : P.info? e with
          | none => rw [he] at h1; simp at h1
          | some ie =>
            have hs : (sizeOf e).run P w = .ok ie.size w := by simp [sizeOf, typeInfo, he]
            have hfe' : Instr.fill (fun i => some (i * ie.size, ie.size)) zs.toArray (parts.map fun (p : Nat × Operand) => (p.1, ρ p.2)).toList = some cs.toArray := by
              rw [hpa]
              refine hfe _ (fun i p h => ?_)
              rw [← h2, he] at h
              simp only [List.getElem?_map, Option.map_some, Option.getD_some] at h
              cases hr : (List.range n)[i]? with
              | none => rw [hr] at h; cases h
              | some q =>
                rw [hr] at h
                have hq : q = i := by
                  have := List.getElem?_eq_some_iff.1 hr
                  obtain ⟨hh, hh2⟩ := this
                  simp at hh2
                  exact hh2.symm
                subst hq
                exact h
            simp only [Instr.build, zeroValue, typeInfo, Sem.run_bind, run_program, Result.andThen_ok, hi, Sem.run_pure, hz1, run_und hu, hs, hz3]
            simp only [hfe']
            simp
        | _ => exact hb.elim
      simp only [execOp]
      have e2 : (parts.map fun x => match x with | (i, x) => (i, ρ x)) = (parts.map fun (p : Nat × Operand) => (p.1, ρ p.2)) := rfl
      simp [e2, key]
end

/-! ## loops and meeting ways, with the memory's parts -/
theorem loop_st {c : Code} {X : Type} {L0 : List (Nat × Value)} {R0 : List Mem} (ks : List Nat) (H : Fr N L a) (_hk : pick ks L = some L0) (F : X → List (Nat × Value)) (M : X → List Mem) (Pr : Nat → X → Prop)
    (n0 : Nat) (x0 : X) (h0 : Pr n0 x0) (S0 : St w0 F0 (M x0 ++ R0) w) (H0 : Fr N (F x0 ++ L0) a)
    (round : ∀ g x a w, Pr g x → St w0 F0 (M x ++ R0) w → Fr N (F x ++ L0) a → ∀ K : Act → World → Prop, (∀ g' x' a' w', g' < g → Pr g' x' → St w0 F0 (M x' ++ R0) w' → Fr N (F x' ++ L0) a' → K a' w') → c.wp P (Exit.then K Q) a w) :
    (Code.loop c).wp P Q a w :=
  loop_ (fun g a w => ∃ x, Pr g x ∧ St w0 F0 (M x ++ R0) w ∧ Fr N (F x ++ L0) a) n0 ⟨x0, h0, S0, H0⟩
    fun g a w ⟨x, hp, S, H⟩ K hK => round g x a w hp S H K fun g' x' a' w' hlt hp' S' H' => hK g' a' w' hlt ⟨x', hp', S', H'⟩

theorem meet_sr {x y : Code} {X : Type} {L0 : List (Nat × Value)} {R0 : List Mem} (ks : List Nat) (H : Fr N L a) (_hk : pick ks L = some L0) (F : X → List (Nat × Value)) (M : X → List Mem) (Pr : X → Prop)
    (_SR : St w0 F0 R0 w)
    (h1 : ∀ K : Act → World → Prop, (∀ x a' w', Pr x → St w0 F0 (M x ++ R0) w' → Fr N (F x ++ L0) a' → K a' w') → x.wp P (Exit.then K Q) a w)
    (h2 : ∀ x a' w', Pr x → St w0 F0 (M x ++ R0) w' → Fr N (F x ++ L0) a' → y.wp P Q a' w') : (Code.seq x y).wp P Q a w :=
  seq_meet (fun a w => ∃ x, Pr x ∧ St w0 F0 (M x ++ R0) w ∧ Fr N (F x ++ L0) a) (fun K hK => h1 K fun x a' w' hp S' H' => hK a' w' ⟨x, hp, S', H'⟩) fun a w ⟨x, hp, S', H'⟩ => h2 x a w hp S' H'
end
end Go.Proofs.Ytopmadlgolnmfaa

namespace Go.Proofs.Ytopmadlgolnmfaa
set_option linter.unusedVariables false
set_option linter.unusedSimpArgs false
open Go.RowKit
section
variable {P : Program} {ops : Array Oper} {w w0 : World} {F0 : Nat → Prop} {R : List Mem} {Q : Exit → Act → World → Prop} {rest : List Oper} {N : FN} {L : List (Nat × Value)} {a : Act} {ty : TypeId} {pos : String} {af : Array Edge}
end
end Go.Proofs.Ytopmadlgolnmfaa

namespace Go.Proofs.Ytopmadlgolnmfaa
set_option linter.unusedVariables false
set_option linter.unusedSimpArgs false
open Go.RowKit
section
variable {P : Program} {w : World} {L : List (Nat × Value)} {ty : TypeId} {pos : String} {af : Array Edge} {dd : Option Nat} {g : Option (Nat × Bool)} {x y : Operand} {xt yt : TypeId} {k : IntKind} {m n : Int}
theorem does_gt_t (hx : ev L x = some (.int k m)) (hy : ev L y = some (.int k n)) (h : n < m) : Does P L ⟨dd, .binOp .gtr xt x y yt, ty, pos, af, g⟩ w (.bool true) := (does_gtr hx hy).to (congrArg Value.bool (decide_eq_true h))
theorem does_gt_f (hx : ev L x = some (.int k m)) (hy : ev L y = some (.int k n)) (h : ¬ n < m) : Does P L ⟨dd, .binOp .gtr xt x y yt, ty, pos, af, g⟩ w (.bool false) := (does_gtr hx hy).to (congrArg Value.bool (decide_eq_false h))
end
end Go.Proofs.Ytopmadlgolnmfaa
