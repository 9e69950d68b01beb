/- Layer 1, plain: what a band's speed becomes, and which way it goes until it rests. -/
import Derived.Test.YtdepakimbagonaaE2
namespace Go.Proofs.Ytdepakimbagonaa
set_option linter.unusedVariables false
set_option linter.unusedSimpArgs false

structure Brake where
  force : Int
  delay : Int
deriving DecidableEq
def Brake.zero : Brake := ⟨0, 0⟩
def Brake.cell (b : Brake) : Nat → Value
  | 0 => .int .i64 b.force
  | _ => .int .i64 b.delay
def bcell (l : List Brake) (k j : Nat) : Value := (l.getD k Brake.zero).cell j
structure Esc where
  up : Bool
  empty : Int
  pull : Int
  drag : Int
  motor : Int
  br : List Brake
structure Stp where
  speed : Int
  lo : Int
  hi : Int
  fail : Int
def brakeOk (b : Brake) : Bool := decide (0 ≤ b.force ∧ b.force ≤ 10000000 ∧ 0 ≤ b.delay ∧ b.delay ≤ 20)
def escOk (e : Esc) : Bool := decide (1 ≤ e.empty ∧ e.empty ≤ 100000 ∧ 0 ≤ e.pull ∧ e.pull ≤ 100 ∧ 0 ≤ e.drag ∧ e.drag ≤ 10000000 ∧ 0 ≤ e.motor ∧ e.motor ≤ 10000000 ∧ e.br.length ≤ 3) && e.br.all brakeOk
def stpOk (e : Esc) (s : Stp) : Bool := decide (0 ≤ s.speed ∧ s.speed ≤ 1000 ∧ 0 ≤ s.lo ∧ s.lo ≤ s.hi ∧ s.hi ≤ 100000 ∧ 0 ≤ s.fail ∧ s.fail < 2 ^ e.br.length)
def stopE (e : Esc) (s : Stp) : Int := if escOk e = true then (if stpOk e s = true then 0 else 11) else 10
def aheadI (v g f m : Int) : Int := max 0 (v + (g - f) / m)
def tickI (e : Esc) (v load brakes : Int) : Int :=
  let g := if e.up then -(e.pull * load) else e.pull * load
  if v < 0 ∨ v = 0 ∧ g < 0 then -aheadI (-v) (-g) (e.drag + brakes) (e.empty + load) else aheadI v g (e.drag + brakes) (e.empty + load)
/-- The force of the first k brakes that grip. -/
def gripTo (fail t : Int) (l : List Brake) : Nat → Int
  | 0 => 0
  | k + 1 => gripTo fail t l k + (if fail / 2 ^ k % 2 = 0 ∧ (l.getD k Brake.zero).delay ≤ t then (l.getD k Brake.zero).force else 0)
theorem gripTo_yes {fail t : Int} {l : List Brake} {k : Nat} (h : fail / 2 ^ k % 2 = 0 ∧ (l.getD k Brake.zero).delay ≤ t) : gripTo fail t l k + (l.getD k Brake.zero).force = gripTo fail t l (k + 1) := by
  conv => rhs; unfold gripTo
  rw [if_pos h]
theorem gripTo_no {fail t : Int} {l : List Brake} {k : Nat} (h : ¬ (fail / 2 ^ k % 2 = 0 ∧ (l.getD k Brake.zero).delay ≤ t)) : gripTo fail t l k = gripTo fail t l (k + 1) := by
  conv => rhs; unfold gripTo
  rw [if_neg h, Int.add_zero]
def gripI (e : Esc) (s : Stp) (t : Int) : Int := gripTo s.fail t e.br e.br.length
def extI (e : Esc) (s : Stp) (most : Bool) (v t : Int) : Int :=
  let a := tickI e v s.lo (gripI e s t); let b := tickI e v s.hi (gripI e s t)
  if (most = true ∧ b > a) ∨ (most = false ∧ b < a) then b else a
def goI (e : Esc) (s : Stp) (most : Bool) : Nat → Int → Int → Int × Bool
  | 0, v, _ => (0, decide (v = 0))
  | n + 1, v, t => if v = 0 then (0, true) else (extI e s most v t + (goI e s most n (extI e s most v t) (t + 1)).1, (goI e s most n (extI e s most v t) (t + 1)).2)
theorem grip_bd {fail t : Int} {l : List Brake} (h : l.all brakeOk = true) : ∀ k, k ≤ l.length → 0 ≤ gripTo fail t l k ∧ gripTo fail t l k ≤ 10000000 * k := by
  intro k
  induction k with
  | zero => intro _; unfold gripTo; omega
  | succ k ih =>
    intro hk
    have h1 := ih (by omega)
    have hb : brakeOk (l.getD k Brake.zero) = true := by
      rw [List.getD_eq_getElem?_getD, List.getElem?_eq_getElem (by omega)]
      exact List.all_eq_true.1 h _ (List.getElem_mem _)
    unfold brakeOk at hb
    simp only [decide_eq_true_eq] at hb
    unfold gripTo
    split <;> omega
theorem esc_parts {e : Esc} (h : escOk e = true) : (1 ≤ e.empty ∧ e.empty ≤ 100000 ∧ 0 ≤ e.pull ∧ e.pull ≤ 100 ∧ 0 ≤ e.drag ∧ e.drag ≤ 10000000 ∧ 0 ≤ e.motor ∧ e.motor ≤ 10000000 ∧ e.br.length ≤ 3) ∧ (∀ k, k < e.br.length → brakeOk (e.br.getD k Brake.zero) = true) ∧ (2 : Int) ^ ((e.br.length : Int)).toNat = 2 ^ e.br.length ∧ 1 ≤ (2 : Int) ^ e.br.length ∧ (2 : Int) ^ e.br.length ≤ 8 := by
  unfold escOk at h
  simp only [Bool.and_eq_true, decide_eq_true_eq] at h
  have h2 := h.1.2.2.2.2.2.2.2.2
  have h3 : e.br.length = 0 ∨ e.br.length = 1 ∨ e.br.length = 2 ∨ e.br.length = 3 := by omega
  refine ⟨h.1, fun k hk => ?_, by rw [Int.toNat_natCast], ?_⟩
  · rw [List.getD_eq_getElem?_getD, List.getElem?_eq_getElem hk]
    exact List.all_eq_true.1 h.2 _ (List.getElem_mem hk)
  · rcases h3 with e | e | e | e <;> rw [e] <;> decide
theorem stop_ok {e : Esc} {s : Stp} (h : stopE e s = 0) : escOk e = true ∧ stpOk e s = true := by
  unfold stopE at h
  split at h
  · split at h
    · exact ⟨by assumption, by assumption⟩
    · cases h
  · cases h
theorem div_bd {x m B : Int} (hm : 0 < m) (h : -B ≤ x ∧ x ≤ B) : -B ≤ x / m ∧ x / m ≤ B := by
  constructor
  · rw [Int.le_ediv_iff_mul_le hm]
    have : B * 1 ≤ B * m := Int.mul_le_mul_of_nonneg_left (by omega) (by omega)
    rw [Int.neg_mul]; omega
  · have := Int.ediv_le_ediv hm h.2
    have := Int.ediv_le_self m (show 0 ≤ B by omega)
    omega
/-- How great a speed is that comes of a speed. -/
theorem tick_bd {e : Esc} {v x f B : Int} (he : escOk e = true) (hx : 0 ≤ x ∧ x ≤ 100000) (hf : 0 ≤ f ∧ f ≤ 30000000) (hv : -B ≤ v ∧ v ≤ B) : -(B + 50000000) ≤ tickI e v x f ∧ tickI e v x f ≤ B + 50000000 := by
  obtain ⟨h1, _⟩ := esc_parts he
  have h2 : 0 ≤ e.pull * x := Int.mul_nonneg (by omega) (by omega)
  have h3 : e.pull * x ≤ 100 * 100000 := Int.mul_le_mul (by omega) (by omega) (by omega) (by omega)
  unfold tickI aheadI
  simp only
  generalize hg : (if e.up = true then -(e.pull * x) else e.pull * x) = g
  have h4 : -10000000 ≤ g ∧ g ≤ 10000000 := by rw [← hg]; split <;> omega
  have h5 := div_bd (x := g - (e.drag + f)) (B := 50000000) (show 0 < e.empty + x by omega) (by omega)
  have h6 := div_bd (x := -g - (e.drag + f)) (B := 50000000) (show 0 < e.empty + x by omega) (by omega)
  split <;> omega
theorem ext_hi {e : Esc} {s : Stp} {m : Bool} {v t : Int} (h : (m = true ∧ tickI e v s.hi (gripI e s t) > tickI e v s.lo (gripI e s t)) ∨ (m = false ∧ tickI e v s.hi (gripI e s t) < tickI e v s.lo (gripI e s t))) : extI e s m v t = tickI e v s.hi (gripI e s t) := by
  unfold extI
  exact if_pos h
theorem ext_lo {e : Esc} {s : Stp} {m : Bool} {v t : Int} (h : ¬ ((m = true ∧ tickI e v s.hi (gripI e s t) > tickI e v s.lo (gripI e s t)) ∨ (m = false ∧ tickI e v s.hi (gripI e s t) < tickI e v s.lo (gripI e s t)))) : extI e s m v t = tickI e v s.lo (gripI e s t) := by
  unfold extI
  exact if_neg h
theorem ext_is {e : Esc} {s : Stp} {m : Bool} {v t : Int} : extI e s m v t = tickI e v s.lo (gripI e s t) ∨ extI e s m v t = tickI e v s.hi (gripI e s t) := by
  unfold extI
  simp only
  split
  · exact .inr rfl
  · exact .inl rfl
/-- What Distance returns: the ways, and an error. -/
def distI (e : Esc) (s : Stp) : Int × Int × Int :=
  if stopE e s ≠ 0 then (0, 0, stopE e s) else if (goI e s true 100 s.speed 0).2 = true then ((goI e s false 100 s.speed 0).1, (goI e s true 100 s.speed 0).1, 0) else (0, 0, 12)
end Go.Proofs.Ytdepakimbagonaa
