/- Layer 2, plain: one end after the other is fixed. -/
import Derived.Test.YtdfjdkhgdmndjaaWeb
namespace Go.Proofs.Ytdfjdkhgdmndjaa
set_option linter.unusedVariables false
set_option linter.unusedSimpArgs false

/-- A span of one length, which may be. -/
theorem tight_pin {n : Nat} {M : IM} {i j : Nat} {v : Int} (h : Good n M) (hi : i < n) (hj : j < n) (h1 : -(M j i) ≤ v) (h2 : v ≤ M i j) :
    Good n (tightM M i j v v) ∧ tightM M i j v v i j = v ∧ tightM M i j v v j i = -v := by
  unfold tightM
  have di := h.diag i hi
  have dj := h.diag j hj
  rcases arc_cases (far := v) h hi hj with ⟨g1, f1, _⟩ | ⟨hn, _⟩
  · have e1 := f1 i j hi hj
    have e2 := f1 j i hj hi
    have e3 := g1.diag i hi
    have e4 := g1.diag j hj
    have t1 := h.tri j i j hj hi hj
    rcases arc_cases (far := -v) g1 hj hi with ⟨g2, f2, _⟩ | ⟨hn, _⟩
    · refine ⟨g2, ?_, ?_⟩
      · rw [f2 i j hi hj]; omega
      · rw [f2 j i hj hi]; omega
    · omega
  · omega

def witS (M : IM) (a b : Nat) (len : Int) : IM := if a < b then tightM M a b len len else M
def witM (M : IM) : Nat → IM
  | 0 => M
  | k + 1 => tightM (witM M k) k (k + 1) (-(witM M k (k + 1) k)) (-(witM M k (k + 1) k))
def witN (M : IM) (k : Nat) : Int := -(witM M k (k + 1) k)

theorem witS_good {n : Nat} {M : IM} {a b : Nat} {len : Int} (h : Good n M) (ha : a < n) (hb : b < n) (h1 : -(M b a) ≤ len) (h2 : len ≤ M a b) : Good n (witS M a b len) := by
  unfold witS
  split
  · exact (tight_pin h ha hb h1 h2).1
  · exact h
theorem witM_good {n : Nat} {M : IM} (h : Good n M) : ∀ k, k < n → Good n (witM M k) := by
  intro k
  induction k with
  | zero => intro _; exact h
  | succ k ih =>
    intro hk
    have g := ih (by omega)
    have h1 := g.tri k (k + 1) k (by omega) hk (by omega)
    have h2 := g.diag k (by omega)
    exact (tight_pin g (by omega) hk (Int.le_refl _) (by omega)).1
end Go.Proofs.Ytdfjdkhgdmndjaa
