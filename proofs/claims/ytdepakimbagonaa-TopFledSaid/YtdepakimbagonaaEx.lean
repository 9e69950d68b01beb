/- Layer 2, plain: the example of the chapter. The tables are printed by extab.py. -/
import Derived.Test.YtdepakimbagonaaF1
import Derived.KernelRfl
namespace Go.Proofs.Ytdepakimbagonaa
set_option linter.unusedVariables false
set_option linter.unusedSimpArgs false

def tabM (T : List (List Int)) : IM := fun x y => (T.getD x []).getD y 0
def mkT (n : Nat) (M : IM) : List (List Int) := (List.range n).map fun x => (List.range n).map fun y => M x y
theorem mkT_at {n : Nat} {M : IM} {x y : Nat} (hx : x < n) (hy : y < n) : tabM (mkT n M) x y = M x y := by
  simp [tabM, mkT, hx, hy]
def agree (n : Nat) (M : IM) (T : List (List Int)) : Prop := ∀ x y, x < n → y < n → M x y = tabM T x y
theorem arc_congr {n : Nat} {M M' : IM} (h : ∀ x y, x < n → y < n → M x y = M' x y) {a b : Nat} (ha : a < n) (hb : b < n) (far : Int) : ∀ x y, x < n → y < n → arc M a b far x y = arc M' a b far x y := by
  intro x y hx hy
  unfold arc
  rw [h a b ha hb]
  split
  · exact h x y hx hy
  · unfold rel vxa vb vba
    rw [h x y hx hy, h x a hx ha, h b y hb hy, h b a hb ha]
theorem tight_congr {n : Nat} {M M' : IM} (h : ∀ x y, x < n → y < n → M x y = M' x y) {i j : Nat} (hi : i < n) (hj : j < n) (lo hi' : Int) : ∀ x y, x < n → y < n → tightM M i j lo hi' x y = tightM M' i j lo hi' x y :=
  arc_congr (arc_congr h hi hj hi') hj hi (-lo)
theorem agree.step {n : Nat} {M : IM} {T T' : List (List Int)} {i j : Nat} {lo hi : Int} (h : agree n M T) (hi' : i < n) (hj : j < n) (hT : mkT n (tightM (tabM T) i j lo hi) = T') : agree n (tightM M i j lo hi) T' := by
  intro x y hx hy
  rw [tight_congr h hi' hj lo hi x y hx hy, ← hT, mkT_at hx hy]
theorem agree.diag {n : Nat} {M : IM} {T : List (List Int)} (h : agree n M T) (hd : diagB n (tabM T) = true) : diagB n M = true := by
  rw [diagB_iff] at *
  intro k hk
  rw [h k k hk hk]
  exact hd k hk

-- run (421, 425) witness [100, 103, 108, 110]
end Go.Proofs.Ytdepakimbagonaa
