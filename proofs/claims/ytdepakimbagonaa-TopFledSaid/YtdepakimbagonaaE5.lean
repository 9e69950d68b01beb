/- Chapter 8: a way that somebody names, and the first way. Chapter 8: hours and promises. Chapter 8: the station of the examples. -/
import Derived.Test.YtdepakimbagonaaE4
namespace Go.Proofs.Ytdepakimbagonaa
set_option linter.unusedVariables false
set_option linter.unusedSimpArgs false

/-! ## a way that somebody names -/
section
variable {ps : List Psg} {out : Int} {help : Bool} {l : List Int} {a b : Int} {k : Nat} {s : Int × Int}
end
/-- Ways, one step longer at the end. -/
theorem Wk.snoc {ps : List Psg} {out : Int} {help : Bool} {a b n k c : Nat} {l : List Nat} (W : Wk ps out help a b n l) : k < ps.length → oth out help (ps.getD k Psg.zero) b = (c : Int) → 1 ≤ (ps.getD k Psg.zero).ticks → Wk ps out help a c (n + (ps.getD k Psg.zero).ticks.toNat) (l ++ [k]) := by
  induction W with
  | nil a =>
    intro hk ho ht
    have := Wk.cons hk ho (Wk.nil c)
    rw [Nat.zero_add]
    exact this
  | @cons a b c' n k' l' hk' ho' _ ih =>
    intro hk ho ht
    have := Wk.cons hk' ho' (ih hk ho ht)
    rw [Nat.add_assoc]
    exact this
/-! ## which list comes first -/
section
variable {P : Nat} {ps : List Psg} {xs : List Int} {out : Int} {help : Bool} {fr to : Nat} {l : List Int}
end
end Go.Proofs.Ytdepakimbagonaa

namespace Go.Proofs.Ytdepakimbagonaa
set_option linter.unusedVariables false
set_option linter.unusedSimpArgs false
open Go.RowKit

/-- An hour as it comes: with where its list of people lies. -/
structure Hr where
  out : Int
  help : Bool
  pe : List Int
  A : Option Addr
  c : Nat
def Hr.zero : Hr := ⟨0, false, [], none, 0⟩
def Hr.cell (h : Hr) : Nat → Value
  | 0 => .int .i64 h.out
  | 1 => .bool h.help
  | _ => .slice h.A h.pe.length h.c
/-- An hour without it. -/
structure Hq where
  out : Int
  help : Bool
  pe : List Int
def Hq.zero : Hq := ⟨0, false, []⟩
def Hr.q (h : Hr) : Hq := ⟨h.out, h.help, h.pe⟩
def hcl (l : List Hq) (DA : Nat → Option Addr) (dc : Nat → Nat) (k : Nat) : Nat → Value
  | 0 => .int .i64 (l.getD k Hq.zero).out
  | 1 => .bool (l.getD k Hq.zero).help
  | _ => .slice (DA k) (l.getD k Hq.zero).pe.length (dc k)
structure Prm where
  fr : Int
  to : Int
  first : Int
  last : Int
  helped : Bool
def Prm.zero : Prm := ⟨0, 0, 0, 0, false⟩
def Prm.cell (p : Prm) : Nat → Value
  | 0 => .int .i64 p.fr
  | 1 => .int .i64 p.to
  | 2 => .int .i64 p.first
  | 3 => .int .i64 p.last
  | _ => .bool p.helped
section
variable {P : Nat} {ps : List Psg} {xs : List Int} {day : List Hq} {l : List Prm} {h i : Nat}
end
/-! an hour's people in new memory -/
section
variable {w w0 : World} {F0 : Nat → Prop} {R : List Mem} {e sz i k : Nat} {A : Nat → Option Addr} {n c : Nat → Nat} {cell : Nat → Nat → Nat → Value}
theorem ragM.none (S : St w0 F0 R w) (e sz : Nat) (A : Nat → Option Addr) (n c : Nat → Nat) (cell : Nat → Nat → Nat → Value) : St w0 F0 (ragM e sz (fun q => q < 0) A n c cell :: R) w :=
  S.new (Keeps.refl _ _) ⟨fun q hq => absurd hq (Nat.not_lt_zero q), fun q _ hq => absurd hq (Nat.not_lt_zero q)⟩ (fun b ⟨q, hq, _⟩ => absurd hq (Nat.not_lt_zero q))
theorem ragM.add {A' : Option Addr} {n' c' : Nat} {cell' : Nat → Nat → Value} (S : St w0 F0 (ownM e sz A' n' c' cell' :: R) w) (hi : R[i]? = some (ragM e sz (fun q => q < k) A n c cell)) :
    St w0 F0 (R.set i (ragM e sz (fun q => q < k + 1) (upd A k A') (upd n k n') (upd c k c') (upd cell k cell'))) w := by
  have e1 : (fun q => q < k) = (fun q => q < k + 1 ∧ q ≠ k) := by funext q; exact propext ⟨fun h => by omega, fun h => by omega⟩
  rw [e1] at hi
  exact ragM.put (D := fun q => q < k + 1) S hi (by omega)
theorem ragM.recell {n' : Nat → Nat} {A' : Nat → Option Addr} {c' : Nat → Nat} {cell' : Nat → Nat → Nat → Value} {D : Nat → Prop} (S : St w0 F0 R w) (hi : R[i]? = some (ragM e sz D A n c cell)) (h : ∀ q, D q → A q = A' q ∧ n q = n' q ∧ c q = c' q ∧ cell q = cell' q) : St w0 F0 (R.set i (ragM e sz D A' n' c' cell')) w := by
  have hrow : ∀ q, D q → ownM e sz (A' q) (n' q) (c' q) (cell' q) = ownM e sz (A q) (n q) (c q) (cell q) := fun q hq => by obtain ⟨h1, h2, h3, h4⟩ := h q hq; rw [h1, h2, h3, h4]
  refine S.imp hi (fun ⟨h1, h2⟩ => ⟨fun q hq => by rw [hrow q hq]; exact h1 q hq, fun q r hq hr hqr b hb hb' => ?_⟩) ?_
  · rw [hrow q hq] at hb; rw [hrow r hr] at hb'; exact h2 q r hq hr hqr b hb hb'
  · rintro b ⟨q, hq, hb⟩; rw [hrow q hq] at hb; exact ⟨q, hq, hb⟩
end
end Go.Proofs.Ytdepakimbagonaa

namespace Go.Proofs.Ytdepakimbagonaa
set_option linter.unusedVariables false
set_option linter.unusedSimpArgs false
set_option maxRecDepth 100000

/-! who leaves: the flow of seven, and what can still be reached -/
deriving instance DecidableEq for Mv
deriving instance DecidableEq for Ent
end Go.Proofs.Ytdepakimbagonaa
