/- Layer 1, plain: what a band's speed becomes, and which way it goes until it rests. -/
import Derived.Test.YtdepakimbagonaaE2
namespace Go.Proofs.Ytdepakimbagonaa
set_option linter.unusedVariables false
set_option linter.unusedSimpArgs false

structure Brake where
  force : Int
  delay : Int
deriving DecidableEq
def Brake.zero : Brake := ⟨0, 0⟩
def Brake.cell (b : Brake) : Nat → Value
  | 0 => .int .i64 b.force
  | _ => .int .i64 b.delay
def bcell (l : List Brake) (k j : Nat) : Value := (l.getD k Brake.zero).cell j
structure Esc where
  up : Bool
  empty : Int
  pull : Int
  drag : Int
  motor : Int
  br : List Brake
structure Stp where
  speed : Int
  lo : Int
  hi : Int
  fail : Int
def brakeOk (b : Brake) : Bool := decide (0 ≤ b.force ∧ b.force ≤ 10000000 ∧ 0 ≤ b.delay ∧ b.delay ≤ 20)
def escOk (e : Esc) : Bool := decide (1 ≤ e.empty ∧ e.empty ≤ 100000 ∧ 0 ≤ e.pull ∧ e.pull ≤ 100 ∧ 0 ≤ e.drag ∧ e.drag ≤ 10000000 ∧ 0 ≤ e.motor ∧ e.motor ≤ 10000000 ∧ e.br.length ≤ 3) && e.br.all brakeOk
def stpOk (e : Esc) (s : Stp) : Bool := decide (0 ≤ s.speed ∧ s.speed ≤ 1000 ∧ 0 ≤ s.lo ∧ s.lo ≤ s.hi ∧ s.hi ≤ 100000 ∧ 0 ≤ s.fail ∧ s.fail < 2 ^ e.br.length)
def stopE (e : Esc) (s : Stp) : Int := if escOk e = true then (if stpOk e s = true then 0 else 11) else 10
def aheadI (v g f m : Int) : Int := max 0 (v + (g - f) / m)
def tickI (e : Esc) (v load brakes : Int) : Int :=
  let g := if e.up then -(e.pull * load) else e.pull * load
  if v < 0 ∨ v = 0 ∧ g < 0 then -aheadI (-v) (-g) (e.drag + brakes) (e.empty + load) else aheadI v g (e.drag + brakes) (e.empty + load)
/-- The force of the first k brakes that grip. -/
def gripTo (fail t : Int) (l : List Brake) : Nat → Int
  | 0 => 0
  | k + 1 => gripTo fail t l k + (if fail / 2 ^ k % 2 = 0 ∧ (l.getD k Brake.zero).delay ≤ t then (l.getD k Brake.zero).force else 0)
theorem gripTo_yes {fail t : Int} {l : List Brake} {k : Nat} (h : fail / 2 ^ k % 2 = 0 ∧ (l.getD k Brake.zero).delay ≤ t) : gripTo fail t l k + (l.getD k Brake.zero).force = gripTo fail t l (k + 1) := by
  conv => rhs; unfold gripTo
  rw [if_pos h]
theorem gripTo_no {fail t : Int} {l : List Brake} {k : Nat} (h : ¬ (fail / 2 ^ k % 2 = 0 ∧ (l.getD k Brake.zero).delay ≤ t)) : gripTo fail t l k = gripTo fail t l (k + 1) := by
  conv => rhs; unfold gripTo
  rw [if_neg h, Int.add_zero]
def gripI (e : Esc) (s : Stp) (t : Int) : Int := gripTo s.fail t e.br e.br.length
def extI (e : Esc) (s : Stp) (most : Bool) (v t : Int) : Int :=
  let a := tickI e v s.lo (gripI e s t); let b := tickI e v s.hi (gripI e s t)
  if (most = true ∧ b > a) ∨ (most = false ∧ b < a) then b else a
def goI (e : Esc) (s : Stp) (most : Bool) : Nat → Int → Int → Int × Bool
  | 0, v, _ => (0, decide (v = 0))
  | n + 1, v, t => if v = 0 then (0, true) else (extI e s most v t + (goI e s most n (extI e s most v t) (t + 1)).1, (goI e s most n (extI e s most v t) (t + 1)).2)
def restI : Int → List Int → Int × Bool
  | v, [] => (0, decide (v = 0))
  | v, s :: l => if v = 0 then (0, true) else (s + (restI s l).1, (restI s l).2)
def playI (e : Esc) (s : Stp) : Int → Int → List Int → List Int
  | _, _, [] => []
  | v, t, x :: l => tickI e v x (gripI e s t) :: playI e s (tickI e v x (gripI e s t)) (t + 1) l

theorem floor_up {a f E x y : Int} (hE : 0 < E + x) (h : 0 ≤ a * E + f) (hxy : x ≤ y) : (a * x - f) / (E + x) ≤ (a * y - f) / (E + y) := by
  have hq := Int.ediv_mul_le (a * x - f) (show E + x ≠ 0 by omega)
  generalize (a * x - f) / (E + x) = q at hq ⊢
  have hqa : q ≤ a := by
    have h1 : a * (E + x) = a * E + a * x := Int.mul_add _ _ _
    exact Int.le_of_mul_le_mul_right (show q * (E + x) ≤ a * (E + x) by omega) hE
  rw [Int.le_ediv_iff_mul_le (by omega)]
  have h2 : q * (E + y) = q * (E + x) + q * (y - x) := by rw [← Int.mul_add]; congr 1; omega
  have h3 : q * (y - x) ≤ a * (y - x) := Int.mul_le_mul_of_nonneg_right hqa (by omega)
  have h4 : a * (y - x) = a * y - a * x := Int.mul_sub _ _ _
  omega
theorem floor_down {a f E x y : Int} (hE : 0 < E + x) (h : a * E + f ≤ 0) (hxy : x ≤ y) : (a * y - f) / (E + y) ≤ (a * x - f) / (E + x) := by
  have hq := Int.ediv_mul_le (a * y - f) (show E + y ≠ 0 by omega)
  have hqa : a ≤ (a * y - f) / (E + y) := by
    rw [Int.le_ediv_iff_mul_le (by omega)]
    have h1 : a * (E + y) = a * E + a * y := Int.mul_add _ _ _
    omega
  generalize (a * y - f) / (E + y) = q at hq hqa ⊢
  rw [Int.le_ediv_iff_mul_le (by omega)]
  have h2 : q * (E + y) = q * (E + x) + q * (y - x) := by rw [← Int.mul_add]; congr 1; omega
  have h3 : a * (y - x) ≤ q * (y - x) := Int.mul_le_mul_of_nonneg_right hqa (by omega)
  have h4 : a * (y - x) = a * y - a * x := Int.mul_sub _ _ _
  omega
theorem floor_mid {a f E lo x hi : Int} (hE : 0 < E + lo) (h1 : lo ≤ x) (h2 : x ≤ hi) :
    min ((a * lo - f) / (E + lo)) ((a * hi - f) / (E + hi)) ≤ (a * x - f) / (E + x) ∧ (a * x - f) / (E + x) ≤ max ((a * lo - f) / (E + lo)) ((a * hi - f) / (E + hi)) := by
  rcases Int.le_total 0 (a * E + f) with h | h
  · have := floor_up (f := f) hE h h1; have := floor_up (f := f) (show 0 < E + x by omega) h h2; omega
  · have := floor_down (f := f) hE h h1; have := floor_down (f := f) (show 0 < E + x by omega) h h2; omega
/-- Which form a tick has, for all loads alike. -/
theorem tick_form (e : Esc) (v f : Int) (hp : 0 ≤ e.pull) (hd : 0 ≤ e.drag) (hf : 0 ≤ f) (he : 0 < e.empty) :
    (∃ a : Int, ∀ x, 0 ≤ x → tickI e v x f = max 0 (v + (a * x - (e.drag + f)) / (e.empty + x))) ∨ (∃ a : Int, ∀ x, 0 ≤ x → tickI e v x f = -max 0 (-v + (a * x - (e.drag + f)) / (e.empty + x))) := by
  by_cases hu : e.up = true
  · by_cases hv : v ≤ 0
    · refine .inr ⟨e.pull, fun x hx => ?_⟩
      have h0 := Int.mul_nonneg hp hx
      unfold tickI aheadI
      simp only [hu, if_true]
      split
      · rw [Int.neg_neg]
      · have h1 : v = 0 := by omega
        have h2 : e.pull * x = 0 := by omega
        subst h1
        rw [h2, Int.neg_zero, Int.zero_add]
        have h3 : (0 - (e.drag + f)) / (e.empty + x) ≤ 0 := Int.ediv_nonpos_of_nonpos_of_neg (by omega) (by omega)
        omega
    · refine .inl ⟨-e.pull, fun x hx => ?_⟩
      unfold tickI aheadI
      simp only [hu, if_true]
      rw [if_neg (by omega), Int.neg_mul]
  · have hu : e.up = false := by simpa using hu
    by_cases hv : v < 0
    · refine .inr ⟨-e.pull, fun x hx => ?_⟩
      unfold tickI aheadI
      simp only [hu, Bool.false_eq_true, if_false]
      rw [if_pos (.inl hv), Int.neg_mul]
    · refine .inl ⟨e.pull, fun x hx => ?_⟩
      have h0 := Int.mul_nonneg hp hx
      unfold tickI aheadI
      simp only [hu, Bool.false_eq_true, if_false]
      rw [if_neg (by omega)]
theorem tick_load {e : Esc} {v f lo x hi : Int} (hp : 0 ≤ e.pull) (hd : 0 ≤ e.drag) (hf : 0 ≤ f) (he : 0 < e.empty) (h0 : 0 ≤ lo) (h1 : lo ≤ x) (h2 : x ≤ hi) :
    min (tickI e v lo f) (tickI e v hi f) ≤ tickI e v x f ∧ tickI e v x f ≤ max (tickI e v lo f) (tickI e v hi f) := by
  rcases tick_form e v f hp hd hf he with ⟨a, h⟩ | ⟨a, h⟩
  · rw [h _ h0, h _ (by omega), h x (by omega)]
    have := floor_mid (a := a) (f := e.drag + f) (E := e.empty) (by omega) h1 h2
    omega
  · rw [h _ h0, h _ (by omega), h x (by omega)]
    have := floor_mid (a := a) (f := e.drag + f) (E := e.empty) (by omega) h1 h2
    omega
theorem tick_speed {e : Esc} {v v' x f : Int} (h : v ≤ v') : tickI e v x f ≤ tickI e v' x f := by
  unfold tickI aheadI
  simp only
  generalize (if e.up = true then -(e.pull * x) else e.pull * x) = g
  generalize (g - (e.drag + f)) / (e.empty + x) = q
  generalize (-g - (e.drag + f)) / (e.empty + x) = q'
  split <;> split <;> omega
theorem tick_pos {e : Esc} {v x f : Int} (h : 0 < v) : 0 ≤ tickI e v x f := by
  unfold tickI aheadI
  simp only
  rw [if_neg (by omega)]
  omega
theorem grip_bd {fail t : Int} {l : List Brake} (h : l.all brakeOk = true) : ∀ k, k ≤ l.length → 0 ≤ gripTo fail t l k ∧ gripTo fail t l k ≤ 10000000 * k := by
  intro k
  induction k with
  | zero => intro _; unfold gripTo; omega
  | succ k ih =>
    intro hk
    have h1 := ih (by omega)
    have hb : brakeOk (l.getD k Brake.zero) = true := by
      rw [List.getD_eq_getElem?_getD, List.getElem?_eq_getElem (by omega)]
      exact List.all_eq_true.1 h _ (List.getElem_mem _)
    unfold brakeOk at hb
    simp only [decide_eq_true_eq] at hb
    unfold gripTo
    split <;> omega
theorem grip_nonneg {e : Esc} {s : Stp} {t : Int} (h : e.br.all brakeOk = true) : 0 ≤ gripI e s t := (grip_bd h _ (Nat.le_refl _)).1
theorem ext_most {e : Esc} {s : Stp} {v v' t x : Int} (he : escOk e = true) (hs : stpOk e s = true) (hv : v ≤ v') (h1 : s.lo ≤ x) (h2 : x ≤ s.hi) : tickI e v x (gripI e s t) ≤ extI e s true v' t := by
  unfold escOk at he; unfold stpOk at hs
  simp only [Bool.and_eq_true, decide_eq_true_eq] at he hs
  have hg : 0 ≤ gripI e s t := grip_nonneg he.2
  have h3 := tick_speed (e := e) (x := x) (f := gripI e s t) hv
  have h4 := (tick_load (e := e) (v := v') (f := gripI e s t) (by omega) (by omega) hg (by omega) (show 0 ≤ s.lo by omega) h1 h2).2
  unfold extI
  simp only
  split <;> simp_all <;> omega
theorem ext_least {e : Esc} {s : Stp} {v v' t x : Int} (he : escOk e = true) (hs : stpOk e s = true) (hv : v' ≤ v) (h1 : s.lo ≤ x) (h2 : x ≤ s.hi) : extI e s false v' t ≤ tickI e v x (gripI e s t) := by
  unfold escOk at he; unfold stpOk at hs
  simp only [Bool.and_eq_true, decide_eq_true_eq] at he hs
  have hg : 0 ≤ gripI e s t := grip_nonneg he.2
  have h3 := tick_speed (e := e) (x := x) (f := gripI e s t) hv
  have h4 := (tick_load (e := e) (v := v') (f := gripI e s t) (by omega) (by omega) hg (by omega) (show 0 ≤ s.lo by omega) h1 h2).1
  unfold extI
  simp only
  split <;> simp_all <;> omega
theorem ext_pos {e : Esc} {s : Stp} {m : Bool} {v t : Int} (h : 0 < v) : 0 ≤ extI e s m v t := by
  unfold extI
  simp only
  split <;> exact tick_pos h
theorem go_nonneg {e : Esc} {s : Stp} {m : Bool} : ∀ {n : Nat} {v t : Int}, 0 ≤ v → 0 ≤ (goI e s m n v t).1 := by
  intro n
  induction n with
  | zero => intro v t _; exact Int.le_refl _
  | succ n ih =>
    intro v t hv
    unfold goI
    split
    · exact Int.le_refl _
    · have h := ext_pos (e := e) (s := s) (m := m) (t := t) (show 0 < v by omega)
      have := ih (t := t + 1) h
      simp only
      omega
theorem rest_nonneg {e : Esc} {s : Stp} : ∀ {l : List Int} {v t : Int}, 0 ≤ v → 0 ≤ (restI v (playI e s v t l)).1 := by
  intro l
  induction l with
  | nil => intro v t _; exact Int.le_refl _
  | cons x l ih =>
    intro v t hv
    unfold playI restI
    split
    · exact Int.le_refl _
    · have h := tick_pos (e := e) (x := x) (f := gripI e s t) (show 0 < v by omega)
      have := ih (t := t + 1) h
      simp only
      omega
/-- No history of loads goes farther than the one with the greatest speeds. -/
theorem rest_most {e : Esc} {s : Stp} (he : escOk e = true) (hs : stpOk e s = true) : ∀ {n : Nat} {l : List Int} {v v' t : Int}, l.length ≤ n → 0 ≤ v → v ≤ v' → (∀ x ∈ l, s.lo ≤ x ∧ x ≤ s.hi) → (restI v (playI e s v t l)).1 ≤ (goI e s true n v' t).1 := by
  intro n
  induction n with
  | zero => intro l v v' t hl hv hvv hx; cases l with
    | nil => exact Int.le_refl _
    | cons x l => simp at hl
  | succ n ih =>
    intro l v v' t hl hv hvv hx
    cases l with
    | nil => exact go_nonneg (by omega)
    | cons x l =>
      unfold playI restI
      split
      · exact go_nonneg (by omega)
      · rename_i h0
        unfold goI
        rw [if_neg (by omega)]
        have hb := hx x (by simp)
        have h1 := ext_most (t := t) he hs hvv hb.1 hb.2
        have h2 := ih (l := l) (t := t + 1) (by simpa using hl) (tick_pos (e := e) (x := x) (f := gripI e s t) (show 0 < v by omega)) h1 (fun y hy => hx y (by simp [hy]))
        simp only
        omega
/-- A history of loads that comes to rest goes no less far than the one with the least speeds. -/
theorem rest_least {e : Esc} {s : Stp} (he : escOk e = true) (hs : stpOk e s = true) : ∀ {n : Nat} {l : List Int} {v v' t : Int}, l.length ≤ n → 0 ≤ v' → v' ≤ v → (∀ x ∈ l, s.lo ≤ x ∧ x ≤ s.hi) → (restI v (playI e s v t l)).2 = true → (goI e s false n v' t).1 ≤ (restI v (playI e s v t l)).1 := by
  intro n
  induction n with
  | zero => intro l v v' t hl hv hvv hx _; exact rest_nonneg (by omega)
  | succ n ih =>
    intro l v v' t hl hv hvv hx hr
    unfold goI
    split
    · exact rest_nonneg (by omega)
    · cases l with
      | nil =>
        unfold playI restI at hr
        simp only [decide_eq_true_eq] at hr
        omega
      | cons x l =>
        unfold playI restI at hr ⊢
        rw [if_neg (by omega)] at hr ⊢
        have hb := hx x (by simp)
        have h1 := ext_least (t := t) he hs hvv hb.1 hb.2
        have h2 := ih (l := l) (t := t + 1) (by simpa using hl) (ext_pos (e := e) (s := s) (m := false) (t := t) (show 0 < v' by omega)) h1 (fun y hy => hx y (by simp [hy])) hr
        simp only
        omega
theorem esc_parts {e : Esc} (h : escOk e = true) : (1 ≤ e.empty ∧ e.empty ≤ 100000 ∧ 0 ≤ e.pull ∧ e.pull ≤ 100 ∧ 0 ≤ e.drag ∧ e.drag ≤ 10000000 ∧ 0 ≤ e.motor ∧ e.motor ≤ 10000000 ∧ e.br.length ≤ 3) ∧ (∀ k, k < e.br.length → brakeOk (e.br.getD k Brake.zero) = true) ∧ (2 : Int) ^ ((e.br.length : Int)).toNat = 2 ^ e.br.length ∧ 1 ≤ (2 : Int) ^ e.br.length ∧ (2 : Int) ^ e.br.length ≤ 8 := by
  unfold escOk at h
  simp only [Bool.and_eq_true, decide_eq_true_eq] at h
  have h2 := h.1.2.2.2.2.2.2.2.2
  have h3 : e.br.length = 0 ∨ e.br.length = 1 ∨ e.br.length = 2 ∨ e.br.length = 3 := by omega
  refine ⟨h.1, fun k hk => ?_, by rw [Int.toNat_natCast], ?_⟩
  · rw [List.getD_eq_getElem?_getD, List.getElem?_eq_getElem hk]
    exact List.all_eq_true.1 h.2 _ (List.getElem_mem hk)
  · rcases h3 with e | e | e | e <;> rw [e] <;> decide
theorem stop_ok {e : Esc} {s : Stp} (h : stopE e s = 0) : escOk e = true ∧ stpOk e s = true := by
  unfold stopE at h
  split at h
  · split at h
    · exact ⟨by assumption, by assumption⟩
    · cases h
  · cases h
theorem div_bd {x m B : Int} (hm : 0 < m) (h : -B ≤ x ∧ x ≤ B) : -B ≤ x / m ∧ x / m ≤ B := by
  constructor
  · rw [Int.le_ediv_iff_mul_le hm]
    have : B * 1 ≤ B * m := Int.mul_le_mul_of_nonneg_left (by omega) (by omega)
    rw [Int.neg_mul]; omega
  · have := Int.ediv_le_ediv hm h.2
    have := Int.ediv_le_self m (show 0 ≤ B by omega)
    omega
/-- How great a speed is that comes of a speed. -/
theorem tick_bd {e : Esc} {v x f B : Int} (he : escOk e = true) (hx : 0 ≤ x ∧ x ≤ 100000) (hf : 0 ≤ f ∧ f ≤ 30000000) (hv : -B ≤ v ∧ v ≤ B) : -(B + 50000000) ≤ tickI e v x f ∧ tickI e v x f ≤ B + 50000000 := by
  obtain ⟨h1, _⟩ := esc_parts he
  have h2 : 0 ≤ e.pull * x := Int.mul_nonneg (by omega) (by omega)
  have h3 : e.pull * x ≤ 100 * 100000 := Int.mul_le_mul (by omega) (by omega) (by omega) (by omega)
  unfold tickI aheadI
  simp only
  generalize hg : (if e.up = true then -(e.pull * x) else e.pull * x) = g
  have h4 : -10000000 ≤ g ∧ g ≤ 10000000 := by rw [← hg]; split <;> omega
  have h5 := div_bd (x := g - (e.drag + f)) (B := 50000000) (show 0 < e.empty + x by omega) (by omega)
  have h6 := div_bd (x := -g - (e.drag + f)) (B := 50000000) (show 0 < e.empty + x by omega) (by omega)
  split <;> omega
theorem ext_hi {e : Esc} {s : Stp} {m : Bool} {v t : Int} (h : (m = true ∧ tickI e v s.hi (gripI e s t) > tickI e v s.lo (gripI e s t)) ∨ (m = false ∧ tickI e v s.hi (gripI e s t) < tickI e v s.lo (gripI e s t))) : extI e s m v t = tickI e v s.hi (gripI e s t) := by
  unfold extI
  exact if_pos h
theorem ext_lo {e : Esc} {s : Stp} {m : Bool} {v t : Int} (h : ¬ ((m = true ∧ tickI e v s.hi (gripI e s t) > tickI e v s.lo (gripI e s t)) ∨ (m = false ∧ tickI e v s.hi (gripI e s t) < tickI e v s.lo (gripI e s t)))) : extI e s m v t = tickI e v s.lo (gripI e s t) := by
  unfold extI
  exact if_neg h
theorem ext_is {e : Esc} {s : Stp} {m : Bool} {v t : Int} : extI e s m v t = tickI e v s.lo (gripI e s t) ∨ extI e s m v t = tickI e v s.hi (gripI e s t) := by
  unfold extI
  simp only
  split
  · exact .inr rfl
  · exact .inl rfl
/-- What Distance returns: the ways, and an error. -/
def distI (e : Esc) (s : Stp) : Int × Int × Int :=
  if stopE e s ≠ 0 then (0, 0, stopE e s) else if (goI e s true 100 s.speed 0).2 = true then ((goI e s false 100 s.speed 0).1, (goI e s true 100 s.speed 0).1, 0) else (0, 0, 12)
def histB (lo hi : Int) (l : List Int) : Bool := l.all (fun x => decide (lo ≤ x ∧ x ≤ hi)) && decide (l.length ≤ 100)
def sumTo (l : List Int) (k : Nat) : Int := (l.take k).sum
theorem sumTo_succ {l : List Int} {k : Nat} (hk : k < l.length) : sumTo l (k + 1) = sumTo l k + l.getD k 0 := by
  unfold sumTo
  rw [List.take_succ_eq_append_getElem hk, List.sum_append, List.getD_eq_getElem?_getD, List.getElem?_eq_getElem hk]
  simp
theorem sumTo_bd {l : List Int} {B : Int} (h : ∀ k, k < l.length → -B ≤ l.getD k 0 ∧ l.getD k 0 ≤ B) : ∀ k, k ≤ l.length → -(B * k) ≤ sumTo l k ∧ sumTo l k ≤ B * k := by
  intro k
  induction k with
  | zero => intro _; simp [sumTo]
  | succ k ih =>
    intro hk
    have h1 := ih (by omega)
    have h2 := h k (by omega)
    rw [sumTo_succ (by omega)]
    rw [show B * ((k + 1 : Nat) : Int) = B * k + B by rw [Int.natCast_add, Int.mul_add]; simp]
    omega
theorem rest_zero {v : Int} {l : List Int} (h : v = 0) : restI v l = (0, true) := by
  cases l <;> simp [restI, h]
theorem rest_at : ∀ {k : Nat} {l : List Int} {v : Int}, v ≠ 0 → k < l.length → (∀ q, q < k → l.getD q 0 ≠ 0) → l.getD k 0 = 0 → restI v l = (sumTo l (k + 1), true) := by
  intro k
  induction k with
  | zero =>
    intro l v hv hk _ h0
    cases l with
    | nil => simp at hk
    | cons x l =>
      have hx : x = 0 := by simpa using h0
      unfold restI
      rw [if_neg hv, rest_zero hx]
      simp [sumTo]
  | succ k ih =>
    intro l v hv hk hq h0
    cases l with
    | nil => simp at hk
    | cons x l =>
      have hx : x ≠ 0 := by simpa using hq 0 (by omega)
      have h := ih (l := l) hx (by simpa using hk) (fun q h => by simpa using hq (q + 1) (by omega)) (by simpa using h0)
      unfold restI
      rw [if_neg hv, h]
      simp [sumTo]
theorem rest_none : ∀ {l : List Int} {v : Int}, v ≠ 0 → (∀ q, q < l.length → l.getD q 0 ≠ 0) → restI v l = (sumTo l l.length, false) := by
  intro l
  induction l with
  | nil => intro v hv _; simp [restI, sumTo, hv]
  | cons x l ih =>
    intro v hv hq
    have hx : x ≠ 0 := by simpa using hq 0 (by simp)
    have h := ih hx (fun q h => by simpa using hq (q + 1) (by simpa using h))
    unfold restI
    rw [if_neg hv, h]
    simp [sumTo]
/-- The speed behind k ticks. -/
def spd (e : Esc) (s : Stp) (l : List Int) : Nat → Int
  | 0 => s.speed
  | k + 1 => tickI e (spd e s l k) (l.getD k 0) (gripI e s (k : Int))
theorem play_from {e : Esc} {s : Stp} {l : List Int} : ∀ (d k : Nat), d + k = l.length → playI e s (spd e s l k) (k : Int) (l.drop k) = (List.range d).map fun q => spd e s l (k + q + 1) := by
  intro d
  induction d with
  | zero => intro k hk; rw [List.drop_of_length_le (by omega)]; rfl
  | succ d ih =>
    intro k hk
    rw [List.drop_eq_getElem_cons (by omega), playI, List.range_succ_eq_map, List.map_cons, List.map_map]
    have h := ih (k + 1) (by omega)
    have e1 : tickI e (spd e s l k) l[k] (gripI e s (k : Int)) = spd e s l (k + 1) := by
      rw [spd, List.getD_eq_getElem?_getD, List.getElem?_eq_getElem (by omega)]; rfl
    rw [e1, show (k : Int) + 1 = ((k + 1 : Nat) : Int) by omega, h]
    refine congrArg _ (List.map_congr_left fun q _ => ?_)
    simp only [Function.comp]
    rw [show k + 1 + q + 1 = k + (q + 1) + 1 by omega]
theorem play_is {e : Esc} {s : Stp} {l : List Int} : playI e s s.speed 0 l = (List.range l.length).map fun q => spd e s l (q + 1) := by
  have h := play_from (e := e) (s := s) (l := l) l.length 0 (by omega)
  simpa [spd] using h
theorem play_len {e : Esc} {s : Stp} {l : List Int} : (playI e s s.speed 0 l).length = l.length := by rw [play_is]; simp
theorem play_at {e : Esc} {s : Stp} {l : List Int} {k : Nat} (hk : k < l.length) : (playI e s s.speed 0 l).getD k 0 = spd e s l (k + 1) := by
  rw [play_is]; simp [hk]
theorem spd_bd {e : Esc} {s : Stp} {l : List Int} (he : escOk e = true) (hs : stpOk e s = true) (hh : ∀ k, k < l.length → s.lo ≤ l.getD k 0 ∧ l.getD k 0 ≤ s.hi) : ∀ k, k ≤ l.length → -(1000 + 50000000 * (k : Int)) ≤ spd e s l k ∧ spd e s l k ≤ 1000 + 50000000 * (k : Int) := by
  have hS := hs; unfold stpOk at hS; simp only [decide_eq_true_eq] at hS
  have hq : e.br.all brakeOk = true := by unfold escOk at he; simp only [Bool.and_eq_true] at he; exact he.2
  intro k
  induction k with
  | zero => intro _; unfold spd; omega
  | succ k ih =>
    intro hk
    have h1 := ih (by omega)
    have h2 := hh k (by omega)
    have hgb := grip_bd (fail := s.fail) (t := (k : Int)) hq e.br.length (Nat.le_refl _)
    have hE := (esc_parts he).1
    have hgr : 0 ≤ gripI e s (k : Int) ∧ gripI e s (k : Int) ≤ 30000000 := by unfold gripI; omega
    have h3 := tick_bd (B := 1000 + 50000000 * (k : Int)) he (show 0 ≤ l.getD k 0 ∧ l.getD k 0 ≤ 100000 by omega) hgr h1
    rw [spd]
    omega
end Go.Proofs.Ytdepakimbagonaa
