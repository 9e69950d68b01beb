/- The engine of the walks: frames as lists of slots, memory as a list of owned blocks. Plain lemmas over any program; nothing of the seat's program is named here. -/
import Derived.WalkKit
import Derived.Deep.Quiet
import Derived.StillTail
import Derived.Deep.LoopGhost
import Derived.KernelRfl
namespace Go.Proofs.Ytlmddkekeoebcaa
set_option linter.unusedVariables false
set_option linter.unusedSimpArgs false
open Go.RowKit

/-! ## frames -/
def look : List (Nat × Value) → Nat → Option Value
  | [], _ => none
  | (t, v) :: L, i => bif Nat.beq t i then some v else look L i

def ev (L : List (Nat × Value)) : Operand → Option Value
  | .tmp t => look L t
  | .const v => some v
  | .global g => some (.pointer (some ⟨g, 0, none⟩))
  | .func f => some (.func (.func f) #[] #[])

def evs (L : List (Nat × Value)) : List Operand → Option (List Value)
  | [] => some []
  | x :: xs => match ev L x with
    | some v => match evs L xs with
      | some vs => some (v :: vs)
      | none => none
    | none => none

/-- How many slots a frame has, and its deferred calls. -/
structure FN where
  n : Nat
  ds : List Deferred

structure Fr (N : FN) (L : List (Nat × Value)) (a : Act) : Prop where
  size : a.tmps.size = N.n
  defs : a.defers = N.ds
  at_ : ∀ t v, look L t = some v → a.tmps[t]? = some v

section
variable {N : FN} {L L' : List (Nat × Value)} {a : Act} {P : Program}

theorem Fr.eval (H : Fr N L a) {x : Operand} {v : Value} (h : ev L x = some v) : a.eval x = v := by
  cases x with
  | tmp t => simp [Act.eval, H.at_ t v h]
  | const u => simp only [ev, Option.some.injEq] at h; exact h
  | global g => simp only [ev, Option.some.injEq] at h; exact h
  | func f => simp only [ev, Option.some.injEq] at h; exact h

theorem Fr.evals (H : Fr N L a) : ∀ {xs : List Operand} {vs : List Value}, evs L xs = some vs → xs.map a.eval = vs := by
  intro xs
  induction xs with
  | nil => intro vs h; simp only [evs, Option.some.injEq] at h; subst h; rfl
  | cons x xs ih =>
    intro vs h
    simp only [evs] at h
    split at h
    · rename_i v hv
      split at h
      · rename_i us hus
        simp only [Option.some.injEq] at h
        subst h
        simp only [List.map_cons, H.eval hv, ih hus]
      · cases h
    · cases h

theorem Fr.put (H : Fr N L a) {d : Nat} (v : Value) (hd : Nat.blt d N.n = true) : Fr N ((d, v) :: L) (a.put (some d) v) := by
  have hd' : d < N.n := by simpa using hd
  refine ⟨by simp [Act.put, H.size], H.defs, ?_⟩
  intro t u h
  simp only [look] at h
  by_cases e : d = t
  · subst e
    have hb : Nat.beq d d = true := Nat.beq_refl d
    rw [hb] at h
    simp only [cond_true, Option.some.injEq] at h
    subst h
    have : d < a.tmps.size := by rw [H.size]; exact hd'
    simp [Act.put, this]
  · have hb : Nat.beq d t = false := by
      cases hbb : Nat.beq d t
      · rfl
      · exact absurd (Nat.eq_of_beq_eq_true hbb) e
    rw [hb] at h
    simp only [Act.put]
    rw [Array.getElem?_setIfInBounds_ne e]
    exact H.at_ t u h

theorem Fr.put_none (H : Fr N L a) (v : Value) : Fr N L (a.put none v) := H

def Sub (M L : List (Nat × Value)) : Prop := ∀ t v, look M t = some v → look L t = some v

theorem Sub.nil : Sub [] L := fun _ _ h => by cases h
theorem Sub.cons {t : Nat} {v : Value} {M L : List (Nat × Value)} (h : look L t = some v) (r : Sub M L) : Sub ((t, v) :: M) L := by
  intro t' v' hv
  simp only [look] at hv
  cases hb : Nat.beq t t'
  · rw [hb] at hv; exact r t' v' hv
  · rw [hb] at hv
    simp only [cond_true, Option.some.injEq] at hv
    have := Nat.eq_of_beq_eq_true hb
    subst this; subst hv
    exact h

theorem Fr.to (H : Fr N L a) (h : Sub L' L) : Fr N L' a := ⟨H.size, H.defs, fun t v hv => H.at_ t v (h t v hv)⟩

def pick : List Nat → List (Nat × Value) → Option (List (Nat × Value))
  | [], _ => some []
  | k :: ks, L => match look L k with
    | some v => match pick ks L with
      | some r => some ((k, v) :: r)
      | none => none
    | none => none

theorem pick_sub : ∀ {ks : List Nat} {L'}, pick ks L = some L' → Sub L' L := by
  intro ks
  induction ks with
  | nil => intro L' h; simp only [pick, Option.some.injEq] at h; subst h; exact Sub.nil
  | cons k ks ih =>
    intro L' h
    simp only [pick] at h
    split at h
    · rename_i v hv
      split at h
      · rename_i r hr
        simp only [Option.some.injEq] at h
        subst h
        exact Sub.cons hv (ih hr)
      · cases h
    · cases h

theorem Fr.keep (H : Fr N L a) (ks : List Nat) (h : pick ks L = some L') : Fr N L' a := H.to (pick_sub h)

def number : Nat → List Value → List (Nat × Value)
  | _, [] => []
  | i, v :: vs => (i, v) :: number (i + 1) vs

theorem number_look : ∀ (vs : List Value) (i t : Nat) (v : Value), look (number i vs) t = some v → i ≤ t ∧ vs[t - i]? = some v := by
  intro vs
  induction vs with
  | nil => intro i t v h; cases h
  | cons u us ih =>
    intro i t v h
    simp only [number, look] at h
    cases hb : Nat.beq i t
    · rw [hb] at h
      obtain ⟨h1, h2⟩ := ih (i + 1) t v h
      refine ⟨by omega, ?_⟩
      have : t - i = (t - (i + 1)) + 1 := by omega
      rw [this]; simpa using h2
    · rw [hb] at h
      have := Nat.eq_of_beq_eq_true hb
      subst this
      simp only [cond_true, Option.some.injEq] at h
      subst h
      exact ⟨Nat.le_refl _, by simp⟩

theorem Fr.entry {fn : Func} {N : Nat} (vs : List Value) (hN : fn.ntmps = N) (hle : Nat.ble vs.length N = true) :
    Fr ⟨N, []⟩ (number 0 vs) { tmps := vs.toArray ++ Array.replicate (fn.ntmps - vs.toArray.size) undef, defers := [] } := by
  have hle' : vs.length ≤ N := by simpa using hle
  refine ⟨by simp [hN]; omega, rfl, ?_⟩
  intro t v h
  obtain ⟨_, h2⟩ := number_look vs 0 t v h
  simp only [Nat.sub_zero] at h2
  have hl : t < vs.length := by
    rcases Nat.lt_or_ge t vs.length with h | h
    · exact h
    · rw [List.getElem?_eq_none h] at h2; cases h2
  rw [List.getElem?_eq_getElem hl, Option.some.injEq] at h2
  simp [Array.getElem?_append, hl, h2]
end

/-! ## what a call gives -/
def Ret (R : Value → World → Prop) : Ending → World → Prop
  | .returned v, w => R v w
  | _, _ => False

theorem enter {P : Program} {f : FuncId} {fn : Func} {c : Code} {vs : List Value} {w : World} {R : Ending → World → Prop} {N : Nat}
    (hf : P.funcs[f]? = some fn) (hb : fn.body = some c) (hN : fn.ntmps = N) (hle : Nat.ble vs.length N = true)
    (k : ∀ a, Fr ⟨N, []⟩ (number 0 vs) a → c.wp P (bodyPost P fn R) a w) : Calls P f vs.toArray w R :=
  calls_of_wp hf hb (k _ (Fr.entry vs hN hle))

/-! ## one operation that reads at the most -/
def Does (P : Program) (L : List (Nat × Value)) (o : Oper) (w : World) (v : Value) : Prop :=
  ∀ ρ : Operand → Value, (∀ x u, ev L x = some u → ρ x = u) → (execOp ρ o).run P w = .ok (.value v) w

section
variable {P : Program} {ops : Array Oper} {w : World} {Q : Act → Prop} {rest : List Oper} {N : FN} {L L' : List (Nat × Value)} {a : Act} {ty : TypeId} {pos : String} {af : Array Edge} {op : Op}

theorem still_does {d : Nat} {v : Value} (H : Fr N L a) (hd : Nat.blt d N.n = true) (h : Does P L ⟨some d, op, ty, pos, af, none⟩ w v)
    (k : ∀ a', Fr N ((d, v) :: L) a' → wpStill P ops w Q rest a') : wpStill P ops w Q (⟨some d, op, ty, pos, af, none⟩ :: rest) a := by
  refine wpStill_step fun K hK => ?_
  simp only [Region.wanted, if_true]
  unfold Oper.still
  rw [h a.eval (fun x u hx => H.eval hx)]
  exact ⟨rfl, hK _ (k _ (H.put v hd))⟩

theorem still_yes {d : Option Nat} {i g : Nat} {b : Bool} (H : Fr N L a) (hg : (ops[i]?).bind (·.dst) = some g) (hb : look L g = some (.bool b))
    (k : wpStill P ops w Q (⟨d, op, ty, pos, af, none⟩ :: rest) a) : wpStill P ops w Q (⟨d, op, ty, pos, af, some (i, b)⟩ :: rest) a := by
  have hw : Region.wanted ⟨d, op, ty, pos, af, some (i, b)⟩ (yielded ops a.tmps) = true := by
    simp only [Region.wanted, yielded, hg, Option.bind_some]
    simp [H.at_ g _ hb]
  refine wpStill_step fun K hK => ?_
  rw [if_pos hw]
  simp only [wpStill, Region.wanted, if_true] at k
  exact Oper.still_mono hK k
end
end Go.Proofs.Ytlmddkekeoebcaa
