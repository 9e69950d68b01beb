/- Layer 2, plain: the example of the chapter. The tables are printed by extab.py. -/
import Derived.Test.YtdepakimbagonaaF1
import Derived.KernelRfl
namespace Go.Proofs.Ytdepakimbagonaa
set_option linter.unusedVariables false
set_option linter.unusedSimpArgs false

def tabM (T : List (List Int)) : IM := fun x y => (T.getD x []).getD y 0
def mkT (n : Nat) (M : IM) : List (List Int) := (List.range n).map fun x => (List.range n).map fun y => M x y
theorem mkT_at {n : Nat} {M : IM} {x y : Nat} (hx : x < n) (hy : y < n) : tabM (mkT n M) x y = M x y := by
  simp [tabM, mkT, hx, hy]
def agree (n : Nat) (M : IM) (T : List (List Int)) : Prop := ∀ x y, x < n → y < n → M x y = tabM T x y
theorem arc_congr {n : Nat} {M M' : IM} (h : ∀ x y, x < n → y < n → M x y = M' x y) {a b : Nat} (ha : a < n) (hb : b < n) (far : Int) : ∀ x y, x < n → y < n → arc M a b far x y = arc M' a b far x y := by
  intro x y hx hy
  unfold arc
  rw [h a b ha hb]
  split
  · exact h x y hx hy
  · unfold rel vxa vb vba
    rw [h x y hx hy, h x a hx ha, h b y hb hy, h b a hb ha]
theorem tight_congr {n : Nat} {M M' : IM} (h : ∀ x y, x < n → y < n → M x y = M' x y) {i j : Nat} (hi : i < n) (hj : j < n) (lo hi' : Int) : ∀ x y, x < n → y < n → tightM M i j lo hi' x y = tightM M' i j lo hi' x y :=
  arc_congr (arc_congr h hi hj hi') hj hi (-lo)
theorem agree.step {n : Nat} {M : IM} {T T' : List (List Int)} {i j : Nat} {lo hi : Int} (h : agree n M T) (hi' : i < n) (hj : j < n) (hT : mkT n (tightM (tabM T) i j lo hi) = T') : agree n (tightM M i j lo hi) T' := by
  intro x y hx hy
  rw [tight_congr h hi' hj lo hi x y hx hy, ← hT, mkT_at hx hy]
theorem agree.diag {n : Nat} {M : IM} {T : List (List Int)} (h : agree n M T) (hd : diagB n (tabM T) = true) : diagB n M = true := by
  rw [diagB_iff] at *
  intro k hk
  rw [h k k hk hk]
  exact hd k hk

-- run (421, 425) witness [100, 103, 108, 110]
def exT0 : List (List Int) := [[0, 1099511627776, 1099511627776, 1099511627776, 1099511627776], [1099511627776, 0, 1099511627776, 1099511627776, 1099511627776], [1099511627776, 1099511627776, 0, 1099511627776, 1099511627776], [1099511627776, 1099511627776, 1099511627776, 0, 1099511627776], [1099511627776, 1099511627776, 1099511627776, 1099511627776, 0]]
def exT1 : List (List Int) := [[0, 110, 1099511627776, 1099511627776, 1099511627776], [-100, 0, 1099511627676, 1099511627676, 1099511627676], [1099511627676, 1099511627776, 0, 1099511627776, 1099511627776], [1099511627676, 1099511627776, 1099511627776, 0, 1099511627776], [1099511627676, 1099511627776, 1099511627776, 1099511627776, 0]]
def exT2 : List (List Int) := [[0, 110, 220, 1099511627776, 1099511627776], [-100, 0, 110, 1099511627676, 1099511627676], [-200, -100, 0, 1099511627576, 1099511627576], [1099511627576, 1099511627676, 1099511627776, 0, 1099511627776], [1099511627576, 1099511627676, 1099511627776, 1099511627776, 0]]
def exT3 : List (List Int) := [[0, 110, 220, 330, 1099511627776], [-100, 0, 110, 220, 1099511627676], [-200, -100, 0, 110, 1099511627576], [-300, -200, -100, 0, 1099511627476], [1099511627476, 1099511627576, 1099511627676, 1099511627776, 0]]
def exT4 : List (List Int) := [[0, 110, 220, 330, 440], [-100, 0, 110, 220, 330], [-200, -100, 0, 110, 220], [-300, -200, -100, 0, 110], [-400, -300, -200, -100, 0]]
def exT5 : List (List Int) := [[0, 105, 205, 315, 425], [-100, 0, 105, 215, 325], [-203, -100, 0, 110, 220], [-303, -200, -100, 0, 110], [-403, -300, -200, -100, 0]]
def exT6 : List (List Int) := [[0, 104, 205, 315, 425], [-100, 0, 105, 215, 324], [-203, -101, 0, 110, 220], [-311, -211, -106, 0, 110], [-421, -321, -216, -106, 0]]
def exT7 : List (List Int) := [[0, 100, 205, 315, 421], [-100, 0, 105, 215, 321], [-203, -103, 0, 110, 218], [-311, -211, -106, 0, 110], [-421, -321, -216, -106, 0]]
def exT8 : List (List Int) := [[0, 100, 205, 315, 421], [-100, 0, 105, 215, 321], [-203, -103, 0, 110, 218], [-311, -211, -106, 0, 110], [-421, -321, -216, -106, 0]]
def exT9 : List (List Int) := [[0, 100, 203, 313, 421], [-100, 0, 103, 213, 321], [-203, -103, 0, 110, 218], [-311, -211, -108, 0, 110], [-421, -321, -218, -108, 0]]
def exT10 : List (List Int) := [[0, 100, 203, 311, 421], [-100, 0, 103, 211, 321], [-203, -103, 0, 108, 218], [-311, -211, -108, 0, 110], [-421, -321, -218, -110, 0]]
def exT11 : List (List Int) := [[0, 100, 203, 311, 421], [-100, 0, 103, 211, 321], [-203, -103, 0, 108, 218], [-311, -211, -108, 0, 110], [-421, -321, -218, -110, 0]]
theorem exS1 : mkT 5 (tightM (tabM exT0) 0 1 100 110) = exT1 := by kernel_rfl
theorem exS2 : mkT 5 (tightM (tabM exT1) 1 2 100 110) = exT2 := by kernel_rfl
theorem exS3 : mkT 5 (tightM (tabM exT2) 2 3 100 110) = exT3 := by kernel_rfl
theorem exS4 : mkT 5 (tightM (tabM exT3) 3 4 100 110) = exT4 := by kernel_rfl
theorem exS5 : mkT 5 (tightM (tabM exT4) 0 2 203 205) = exT5 := by kernel_rfl
theorem exS6 : mkT 5 (tightM (tabM exT5) 1 4 321 324) = exT6 := by kernel_rfl
theorem exS7 : mkT 5 (tightM (tabM exT6) 0 4 421 421) = exT7 := by kernel_rfl
theorem exS8 : mkT 5 (tightM (tabM exT7) 0 1 100 100) = exT8 := by kernel_rfl
theorem exS9 : mkT 5 (tightM (tabM exT8) 1 2 103 103) = exT9 := by kernel_rfl
theorem exS10 : mkT 5 (tightM (tabM exT9) 2 3 108 108) = exT10 := by kernel_rfl
theorem exS11 : mkT 5 (tightM (tabM exT10) 3 4 110 110) = exT11 := by kernel_rfl

def exC : Chain := ⟨4, 100, 110⟩
def exL : List Gauge := [⟨0, 2, 203, 205⟩, ⟨1, 4, 321, 324⟩]
theorem ex0 : agree 5 M0 exT0 := by
  have h : mkT 5 M0 = exT0 := by kernel_rfl
  intro x y hx hy; rw [← h, mkT_at hx hy]
theorem ex4 : agree 5 (linksTo exC 4) exT4 := (((ex0.step (by decide) (by decide) exS1).step (by decide) (by decide) exS2).step (by decide) (by decide) exS3).step (by decide) (by decide) exS4
def exM5 : IM := tightM (linksTo exC 4) 0 2 203 205
def exM6 : IM := tightM exM5 1 4 321 324
theorem ex5 : agree 5 exM5 exT5 := ex4.step (by decide) (by decide) exS5
theorem ex6 : agree 5 exM6 exT6 := ex5.step (by decide) (by decide) exS6
theorem ex_weave : weaveW exC exL yes = some exM6 := by
  have d5 : diagB 5 exM5 = true := ex5.diag (by kernel_rfl)
  have d6 : diagB 5 exM6 = true := ex6.diag (by kernel_rfl)
  have g1 : gto 5 exL yes (linksTo exC 4) 1 = some exM5 := by
    show (if yes 0 = true then gOne 5 (linksTo exC 4) ⟨0, 2, 203, 205⟩ else some (linksTo exC 4)) = some exM5
    rw [if_pos (show yes 0 = true from rfl)]
    show (if diagB 5 exM5 = true then some exM5 else none) = some exM5
    rw [if_pos d5]
  show (match gto 5 exL yes (linksTo exC 4) 1 with | none => none | some M' => if yes 1 = true then gOne 5 M' ⟨1, 4, 321, 324⟩ else some M') = some exM6
  rw [g1]
  show (if yes 1 = true then gOne 5 exM5 ⟨1, 4, 321, 324⟩ else some exM5) = some exM6
  rw [if_pos (show yes 1 = true from rfl)]
  show (if diagB 5 exM6 = true then some exM6 else none) = some exM6
  rw [if_pos d6]
theorem ex_check : checkE exC exL = 0 := by kernel_rfl
theorem ex40 : exM6 4 0 = -421 := (ex6 4 0 (by decide) (by decide)).trans (by kernel_rfl)
theorem ex04 : exM6 0 4 = 425 := (ex6 0 4 (by decide) (by decide)).trans (by kernel_rfl)
def exW (k : Nat) : Int := ([100, 103, 108, 110] : List Int).getD k 0
def exS : IM := witS exM6 0 4 421
theorem ex7 : agree 5 exS exT7 := by
  have e : exS = tightM exM6 0 4 421 421 := by unfold exS witS; rw [if_pos (by decide)]
  rw [e]
  exact ex6.step (by decide) (by decide) exS7
theorem exw0 : witN exS 0 = 100 := by
  have h : exS 1 0 = -100 := (ex7 1 0 (by decide) (by decide)).trans (by kernel_rfl)
  show -(exS 1 0) = 100; rw [h]; rfl
theorem exm1 : agree 5 (witM exS 1) exT8 := by
  have h := ex7.step (by decide) (by decide) exS8
  have e : witM exS 1 = tightM exS 0 1 100 100 := by
    show tightM exS 0 1 (witN exS 0) (witN exS 0) = _
    rw [exw0]
  rw [e]; exact h
theorem exw1 : witN exS 1 = 103 := by
  have h : witM exS 1 2 1 = -103 := (exm1 2 1 (by decide) (by decide)).trans (by kernel_rfl)
  show -(witM exS 1 2 1) = 103; rw [h]; rfl
theorem exm2 : agree 5 (witM exS 2) exT9 := by
  have h := exm1.step (by decide) (by decide) exS9
  have e : witM exS 2 = tightM (witM exS 1) 1 2 103 103 := by
    show tightM (witM exS 1) 1 2 (witN exS 1) (witN exS 1) = _
    rw [exw1]
  rw [e]; exact h
theorem exw2 : witN exS 2 = 108 := by
  have h : witM exS 2 3 2 = -108 := (exm2 3 2 (by decide) (by decide)).trans (by kernel_rfl)
  show -(witM exS 2 3 2) = 108; rw [h]; rfl
theorem exm3 : agree 5 (witM exS 3) exT10 := by
  have h := exm2.step (by decide) (by decide) exS10
  have e : witM exS 3 = tightM (witM exS 2) 2 3 108 108 := by
    show tightM (witM exS 2) 2 3 (witN exS 2) (witN exS 2) = _
    rw [exw2]
  rw [e]; exact h
theorem exw3 : witN exS 3 = 110 := by
  have h : witM exS 3 4 3 = -110 := (exm3 4 3 (by decide) (by decide)).trans (by kernel_rfl)
  show -(witM exS 3 4 3) = 110; rw [h]; rfl
theorem exw : ∀ k, k < 4 → witN exS k = exW k := by
  intro k hk
  have : k = 0 ∨ k = 1 ∨ k = 2 ∨ k = 3 := by omega
  rcases this with rfl | rfl | rfl | rfl
  · exact exw0
  · exact exw1
  · exact exw2
  · exact exw3

def exP : Part := ⟨[(1, 2), (5, 10)], 1, 300000, 1000⟩
def exU : List Use := [⟨100, 100000, 0, false, 0, 0⟩, ⟨200, 40000, 1, true, 400000, 600000⟩]
theorem ex_checkP : checkP exP exU = 0 := by kernel_rfl
theorem ex_at : IsAt exP exU exU.length := by
  refine ⟨Nat.le_refl _, fun k hk => ?_, fun h => absurd h (Nat.lt_irrefl _)⟩
  have : k = 0 ∨ k = 1 := by have : exU.length = 2 := rfl
                             omega
  rcases this with rfl | rfl
  · intro h; cases h
  · intro _; decide
end Go.Proofs.Ytdepakimbagonaa
