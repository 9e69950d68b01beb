/- Layer 2, plain: how far the ends of a chain can lie apart. -/
import Derived.Test.YtdfjdkhgdmndjaaChDat
namespace Go.Proofs.Ytdfjdkhgdmndjaa
set_option linter.unusedVariables false
set_option linter.unusedSimpArgs false

abbrev IM := Nat → Nat → Int

/-! ## one arc more -/
section
variable (M : IM) (a b : Nat) (far : Int)
def vba : Int := min (M b a) (M b a + far + M b a)
def vb (y : Nat) : Int := min (M b y) ((if a < y then vba M a b far else M b a) + far + M b y)
def vxa (x : Nat) : Int := min (M x a) (M x a + far + (if b < x then vb M a b far a else M b a))
/-- What the loop over all pairs of ends leaves, in place. -/
def rel : IM := fun x y => min (M x y) ((if a < y then vxa M a b far x else M x a) + far + (if b < x then vb M a b far y else M b y))
/-- .. so far done: all rows before p, and row p up to q. -/
def stg (p q : Nat) : IM := fun x y => if x < p ∨ (x = p ∧ y < q) then rel M a b far x y else M x y
end

theorem rel_b (M : IM) (a b : Nat) (far : Int) (y : Nat) : rel M a b far b y = vb M a b far y := by
  unfold rel vb vxa vba
  simp
theorem rel_a (M : IM) (a b : Nat) (far : Int) (x : Nat) : rel M a b far x a = vxa M a b far x := by
  unfold rel vxa
  simp
/-- What the round at (p, q) writes. -/
theorem stg_new (M : IM) (a b : Nat) (far : Int) (p q : Nat) : min (stg M a b far p q p q) (stg M a b far p q p a + far + stg M a b far p q b q) = rel M a b far p q := by
  have e1 : stg M a b far p q p q = M p q := by unfold stg; rw [if_neg (by omega)]
  have e2 : stg M a b far p q p a = if a < q then vxa M a b far p else M p a := by
    unfold stg
    by_cases h : a < q
    · rw [if_pos (by omega), if_pos h, rel_a]
    · rw [if_neg (by omega), if_neg h]
  have e3 : stg M a b far p q b q = if b < p then vb M a b far q else M b q := by
    unfold stg
    by_cases h : b < p
    · rw [if_pos (by omega), if_pos h, rel_b]
    · rw [if_neg (by omega), if_neg h]
  rw [e1, e2, e3]
  rfl
theorem stg_step (M : IM) (a b : Nat) (far : Int) (p q x y : Nat) : mset (stg M a b far p q) p q (rel M a b far p q) x y = stg M a b far p (q + 1) x y := by
  unfold mset
  by_cases h : x = p ∧ y = q
  · rw [if_pos h]; obtain ⟨rfl, rfl⟩ := h; unfold stg; rw [if_pos (by omega)]
  · rw [if_neg h]; unfold stg
    by_cases h2 : x < p ∨ (x = p ∧ y < q)
    · rw [if_pos h2, if_pos (by omega)]
    · rw [if_neg h2, if_neg (by omega)]
theorem stg_row (M : IM) (a b : Nat) (far : Int) (n p x y : Nat) (hy : y < n) : stg M a b far p n x y = stg M a b far (p + 1) 0 x y := by
  unfold stg
  by_cases h2 : x < p ∨ (x = p ∧ y < n)
  · rw [if_pos h2, if_pos (by omega)]
  · rw [if_neg h2, if_neg (by omega)]
theorem stg_zero (M : IM) (a b : Nat) (far : Int) (x y : Nat) : stg M a b far 0 0 x y = M x y := by
  unfold stg; rw [if_neg (by omega)]
theorem stg_all (M : IM) (a b : Nat) (far : Int) (n x y : Nat) (hx : x < n) : stg M a b far n 0 x y = rel M a b far x y := by
  unfold stg; rw [if_pos (by omega)]

def bdd (n : Nat) (B : Int) (M : IM) : Prop := ∀ x y, x < n → y < n → -B ≤ M x y ∧ M x y ≤ B

theorem rel_bd {n : Nat} {B : Int} {M : IM} {a b : Nat} {far : Int} (hM : bdd n B M) (ha : a < n) (hb : b < n) (hf : -B ≤ far ∧ far ≤ B) : bdd n (11 * B) (rel M a b far) := by
  intro x y hx hy
  have h1 := hM x y hx hy
  have h2 := hM x a hx ha
  have h3 := hM b y hb hy
  have h4 := hM b a hb ha
  unfold rel vxa vb vba
  constructor
  · simp only [Int.le_min]
    constructor
    · omega
    · repeat' split
      all_goals omega
  · have : ∀ z : Int, min (M x y) z ≤ 11 * B := fun z => by omega
    exact this _
theorem stg_bd {n : Nat} {B : Int} {M : IM} {a b : Nat} {far : Int} (hM : bdd n B M) (ha : a < n) (hb : b < n) (hf : -B ≤ far ∧ far ≤ B) (p q : Nat) : bdd n (11 * B) (stg M a b far p q) := by
  intro x y hx hy
  unfold stg
  split
  · exact rel_bd hM ha hb hf x y hx hy
  · have := hM x y hx hy; omega

/-- The arc is added, if it says more than what is known. -/
def arc (M : IM) (a b : Nat) (far : Int) : IM := if M a b ≤ far then M else rel M a b far
def tightM (M : IM) (i j : Nat) (lo hi : Int) : IM := arc (arc M i j hi) j i (-lo)
def diagB (n : Nat) (M : IM) : Bool := (List.range n).all fun k => decide (0 ≤ M k k)
theorem arc_bd {n : Nat} {B : Int} {M : IM} {a b : Nat} {far : Int} (hM : bdd n B M) (ha : a < n) (hb : b < n) (hf : -B ≤ far ∧ far ≤ B) : bdd n (11 * B) (arc M a b far) := by
  unfold arc
  split
  · intro x y hx hy; have := hM x y hx hy; omega
  · exact rel_bd hM ha hb hf

theorem range_all_succ {n k : Nat} {p : Nat → Bool} : (List.range (k + 1)).all p = ((List.range k).all p && p k) := by
  rw [List.range_succ, List.all_append]; simp
theorem range_all_false {n k : Nat} {p : Nat → Bool} (hk : k < n) (h : p k = false) : (List.range n).all p = false := by
  rw [← Bool.not_eq_true, List.all_eq_true]
  intro hh
  have := hh k (List.mem_range.2 hk)
  rw [h] at this
  cases this

/-- The two arcs of a span, one after the other. -/
def arcs (M : IM) (i j : Nat) (lo hi : Int) : Nat → IM
  | 0 => M
  | 1 => arc M i j hi
  | _ => tightM M i j lo hi
def xa (i j k : Nat) : Nat := if k = 0 then i else j
def xb (i j k : Nat) : Nat := if k = 0 then j else i
def xf (lo hi : Int) (k : Nat) : Int := if k = 0 then hi else -lo
theorem arcs_succ (M : IM) (i j : Nat) (lo hi : Int) (k : Nat) (hk : k < 2) : arcs M i j lo hi (k + 1) = arc (arcs M i j lo hi k) (xa i j k) (xb i j k) (xf lo hi k) := by
  have : k = 0 ∨ k = 1 := by omega
  rcases this with rfl | rfl <;> rfl
theorem arcs_bd {n : Nat} {B : Int} {M : IM} {i j : Nat} {lo hi : Int} (hM : bdd n B M) (h1 : i < n) (h2 : j < n) (hf : -B ≤ hi ∧ hi ≤ B) (k : Nat) (hk : k < 2) : bdd n (11 * B) (arcs M i j lo hi k) := by
  have : k = 0 ∨ k = 1 := by omega
  rcases this with rfl | rfl
  · intro x y hx hy; have := hM x y hx hy; show _ ≤ M x y ∧ M x y ≤ _; omega
  · exact arc_bd hM h1 h2 hf
theorem xcut (i j k : Nat) (lo hi : Int) (hk : k < 2) : (([.int .i64 (i : Int), .int .i64 (j : Int), .int .i64 hi, .int .i64 (j : Int), .int .i64 (i : Int), .int .i64 (-lo)] : List Value).drop ((k : Int).toNat * 3)).take 3 =
    [.int .i64 (xa i j k : Int), .int .i64 (xb i j k : Int), .int .i64 (xf lo hi k)] := by
  have : k = 0 ∨ k = 1 := by omega
  rcases this with rfl | rfl <;> rfl

/-! ## matrices that are closed -/
def wide : Int := 1099511627776
structure Good (n : Nat) (M : IM) : Prop where
  diag : ∀ x, x < n → M x x = 0
  tri : ∀ x y z, x < n → y < n → z < n → M x z ≤ M x y + M y z
  top : ∀ x y, x < n → y < n → M x y ≤ wide

theorem Good.low {n : Nat} {M : IM} (h : Good n M) {x y : Nat} (hx : x < n) (hy : y < n) : -wide ≤ M x y := by
  have h1 := h.tri x y x hx hy hx
  have h2 := h.diag x hx
  have h3 := h.top y x hy hx
  omega
theorem Good.bdd {n : Nat} {M : IM} (h : Good n M) : bdd n 2199023255552 M := fun x y hx hy => by
  have h1 := h.low hx hy
  have h2 := h.top x y hx hy
  unfold wide at *
  omega
theorem Good.bdd1 {n : Nat} {M : IM} (h : Good n M) : Go.Proofs.Ytdfjdkhgdmndjaa.bdd n 1099511627776 M := fun x y hx hy => ⟨h.low hx hy, h.top x y hx hy⟩

/-- The arc added at once. -/
theorem rel_closed {n : Nat} {M : IM} {a b : Nat} {far : Int} (h : Good n M) (ha : a < n) (hb : b < n) (hn : 0 ≤ far + M b a) (x y : Nat) (hx : x < n) (hy : y < n) : rel M a b far x y = min (M x y) (M x a + far + M b y) := by
  have e1 : vba M a b far = M b a := by unfold vba; omega
  have e2 : ∀ y, y < n → vb M a b far y = M b y := by
    intro y hy
    have := h.tri b a y hb ha hy
    unfold vb
    rw [e1]
    have h3 : 0 ≤ far + M b a := hn
    split <;> omega
  have e3 : ∀ x, vxa M a b far x = M x a := by
    intro x
    unfold vxa
    rw [e2 a ha]
    split <;> omega
  unfold rel
  rw [e2 y hy, e3 x]
  simp only [ite_self]

theorem rel_le (M : IM) (a b : Nat) (far : Int) (x y : Nat) : rel M a b far x y ≤ M x y := by unfold rel; omega

theorem rel_neg {n : Nat} {M : IM} {a b : Nat} {far : Int} (h : Good n M) (ha : a < n) (hb : b < n) (hn : far + M b a < 0) : rel M a b far a a < 0 := by
  have h1 := h.diag a ha
  have h2 : vb M a b far a ≤ M b a := by unfold vb; omega
  unfold rel
  simp only [Nat.lt_irrefl, if_false]
  split <;> omega

theorem rel_good {n : Nat} {M : IM} {a b : Nat} {far : Int} (h : Good n M) (ha : a < n) (hb : b < n) (hn : 0 ≤ far + M b a) : Good n (rel M a b far) := by
  refine ⟨fun x hx => ?_, fun x y z hx hy hz => ?_, fun x y hx hy => ?_⟩
  · rw [rel_closed h ha hb hn x x hx hx]
    have h1 := h.diag x hx
    have h2 := h.tri b x a hb hx ha
    omega
  · rw [rel_closed h ha hb hn x z hx hz, rel_closed h ha hb hn x y hx hy, rel_closed h ha hb hn y z hy hz]
    have h1 := h.tri x y z hx hy hz
    have h2 := h.tri b y z hb hy hz
    have h3 := h.tri x y a hx hy ha
    have h4 := h.tri b y a hb hy ha
    omega
  · have := rel_le M a b far x y
    have := h.top x y hx hy
    omega

theorem arc_le (M : IM) (a b : Nat) (far : Int) (x y : Nat) : arc M a b far x y ≤ M x y := by
  unfold arc; split
  · exact Int.le_refl _
  · exact rel_le _ _ _ _ _ _

/-- An arc between two ends: closed, or it shows at the diagonal. -/
theorem arc_cases {n : Nat} {M : IM} {a b : Nat} {far : Int} (h : Good n M) (ha : a < n) (hb : b < n) :
    (Good n (arc M a b far) ∧ (∀ x y, x < n → y < n → arc M a b far x y = min (M x y) (M x a + far + M b y)) ∧ 0 ≤ far + M b a) ∨ (far + M b a < 0 ∧ ∃ k, k < n ∧ arc M a b far k k < 0) := by
  unfold arc
  by_cases hle : M a b ≤ far
  · rw [if_pos hle]
    have h0 : 0 ≤ far + M b a := by have := h.tri a b a ha hb ha; have := h.diag a ha; omega
    refine .inl ⟨h, fun x y hx hy => ?_, h0⟩
    have h1 := h.tri x a y hx ha hy
    have h2 := h.tri a b y ha hb hy
    omega
  · rw [if_neg hle]
    by_cases hn : 0 ≤ far + M b a
    · exact .inl ⟨rel_good h ha hb hn, fun x y hx hy => rel_closed h ha hb hn x y hx hy, hn⟩
    · exact .inr ⟨by omega, a, ha, rel_neg h ha hb (by omega)⟩

theorem diagB_iff {n : Nat} {M : IM} : diagB n M = true ↔ ∀ k, k < n → 0 ≤ M k k := by
  unfold diagB
  rw [List.all_eq_true]
  constructor
  · intro h k hk; simpa using h k (List.mem_range.2 hk)
  · intro h k hk; simpa using h k (List.mem_range.1 hk)

theorem tight_good {n : Nat} {M : IM} {i j : Nat} {lo hi : Int} (h : Good n M) (hi' : i < n) (hj : j < n) (hd : diagB n (tightM M i j lo hi) = true) : Good n (tightM M i j lo hi) := by
  rw [diagB_iff] at hd
  unfold tightM at *
  rcases arc_cases (far := hi) h hi' hj with ⟨h1, _⟩ | ⟨_, k, hk, hneg⟩
  · rcases arc_cases (far := -lo) h1 hj hi' with ⟨h2, _⟩ | ⟨_, k, hk, hneg⟩
    · exact h2
    · have := hd k hk; omega
  · have h1 := hd k hk
    have h2 := arc_le (arc M i j hi) j i (-lo) k k
    omega

/-- E lies under M, and is additive. -/
structure Under (n : Nat) (E M : IM) : Prop where
  le : ∀ x y, x < n → y < n → E x y ≤ M x y
  add : ∀ x y z, x < n → y < n → z < n → E x z = E x y + E y z

theorem Under.arc {n : Nat} {E M : IM} {a b : Nat} {far : Int} (h : Under n E M) (ha : a < n) (hb : b < n) (hf : E a b ≤ far) : Under n E (arc M a b far) := by
  refine ⟨fun x y hx hy => ?_, h.add⟩
  unfold Go.Proofs.Ytdfjdkhgdmndjaa.arc
  split
  · exact h.le x y hx hy
  · have q1 := h.le x y hx hy
    have q2 := h.le x a hx ha
    have q3 := h.le b y hb hy
    have q4 := h.le b a hb ha
    have a1 := h.add x a y hx ha hy
    have a2 := h.add a b y ha hb hy
    have a3 := h.add b a y hb ha hy
    have a4 := h.add x b a hx hb ha
    have a5 := h.add x a b hx ha hb
    have a6 := h.add b a a hb ha ha
    have a7 := h.add b b a hb hb ha
    have a8 := h.add a b a ha hb ha
    unfold rel vxa vb vba
    repeat' split
    all_goals omega

theorem Under.tight {n : Nat} {E M : IM} {i j : Nat} {lo hi : Int} (h : Under n E M) (hi' : i < n) (hj : j < n) (h1 : lo ≤ E i j) (h2 : E i j ≤ hi) : Under n E (tightM M i j lo hi) := by
  have h0 := h.add i j i hi' hj hi'
  have h00 := h.add i i i hi' hi' hi'
  exact (h.arc hi' hj h2).arc hj hi' (by omega)

theorem Under.diag {n : Nat} {E M : IM} (h : Under n E M) : diagB n M = true := by
  rw [diagB_iff]
  intro k hk
  have h1 := h.le k k hk hk
  have h2 := h.add k k k hk hk hk
  omega

def M0 : IM := fun x y => if x = y then 0 else wide
theorem M0_good (n : Nat) : Good n M0 := by
  refine ⟨fun x _ => by simp [M0], fun x y z _ _ _ => ?_, fun x y _ _ => ?_⟩
  · unfold M0 wide; repeat' split
    all_goals omega
  · unfold M0 wide; split <;> omega

/-- The web of the links alone. -/
def linksTo (c : Chain) : Nat → IM
  | 0 => M0
  | k + 1 => tightM (linksTo c k) k (k + 1) c.pitch c.limit

theorem linksTo_ok {c : Chain} (hc : chainOk c = true) {n : Nat} (hn : n ≤ 25) : ∀ k, k < n → Good n (linksTo c k) ∧ Under n (fun x y => ((y : Int) - x) * c.pitch) (linksTo c k) := by
  unfold chainOk at hc
  simp only [decide_eq_true_eq] at hc
  obtain ⟨_, _, hp, hpl, hl⟩ := hc
  intro k
  induction k with
  | zero =>
    intro _
    refine ⟨M0_good n, ⟨fun x y hx hy => ?_, fun x y z _ _ _ => ?_⟩⟩
    · unfold linksTo M0 wide
      split
      · rename_i e; subst e; rw [Int.sub_self, Int.zero_mul]; exact Int.le_refl _
      · have h1 : ((y : Int) - x) * c.pitch ≤ 25 * 100000 := by
          rcases Int.le_total ((y : Int) - x) 0 with h | h
          · have := Int.mul_nonneg (show (0 : Int) ≤ -((y : Int) - x) by omega) (show (0 : Int) ≤ c.pitch by omega)
            rw [Int.neg_mul] at this
            omega
          · exact Int.mul_le_mul (by omega) (by omega) (by omega) (by omega)
        omega
    · show ((z : Int) - x) * c.pitch = ((y : Int) - x) * c.pitch + ((z : Int) - y) * c.pitch
      rw [← Int.add_mul]; congr 1; omega
  | succ k ih =>
    intro hk
    obtain ⟨h1, h2⟩ := ih (by omega)
    have e : (((k + 1 : Nat) : Int) - (k : Int)) * c.pitch = c.pitch := by
      have : (((k + 1 : Nat) : Int) - (k : Int)) = 1 := by omega
      rw [this, Int.one_mul]
    have h3 := h2.tight (lo := c.pitch) (hi := c.limit) (i := k) (j := k + 1) (by omega) hk (by show c.pitch ≤ (((k + 1 : Nat) : Int) - (k : Int)) * c.pitch; omega) (by show (((k + 1 : Nat) : Int) - (k : Int)) * c.pitch ≤ c.limit; omega)
    exact ⟨tight_good h1 (by omega) hk h3.diag, h3⟩

/-- One gauge more. -/
def gOne (n : Nat) (M : IM) (g : Gauge) : Option IM :=
  if diagB n (tightM M g.fr.toNat g.to.toNat g.lo g.hi) then some (tightM M g.fr.toNat g.to.toNat g.lo g.hi) else none
/-- The first k gauges, those that are wanted. -/
def gto (n : Nat) (l : List Gauge) (p : Nat → Bool) (M : IM) : Nat → Option IM
  | 0 => some M
  | k + 1 => match gto n l p M k with
    | none => none
    | some M' => if p k then gOne n M' (l.getD k Gauge.zero) else some M'
def Chain.n (c : Chain) : Nat := c.links.toNat + 1
def weaveW (c : Chain) (l : List Gauge) (p : Nat → Bool) : Option IM := gto c.n l p (linksTo c c.links.toNat) l.length

theorem gto_none {n : Nat} {l : List Gauge} {p : Nat → Bool} {M : IM} {k : Nat} (h : gto n l p M k = none) : ∀ m, k ≤ m → gto n l p M m = none := by
  intro m
  induction m with
  | zero => intro hm; have : k = 0 := by omega
            subst this; exact h
  | succ m ih =>
    intro hm
    rcases Nat.lt_or_ge m k with h1 | h1
    · have : k = m + 1 := by omega
      subst this; exact h
    · simp only [gto, ih h1]

theorem getD_ok {l : List Gauge} {links : Int} (hg : l.all (gaugeOk links) = true) {k : Nat} (hk : k < l.length) : gaugeOk links (l.getD k Gauge.zero) = true := by
  rw [List.getD_eq_getElem?_getD, List.getElem?_eq_getElem hk]
  exact List.all_eq_true.1 hg _ (List.getElem_mem hk)

theorem gOne_good {n : Nat} {M M' : IM} {g : Gauge} (h : Good n M) (hf : g.fr.toNat < n) (ht : g.to.toNat < n) (he : gOne n M g = some M') : Good n M' := by
  unfold gOne at he
  split at he
  · rename_i hd
    simp only [Option.some.injEq] at he
    subst he
    exact tight_good h hf ht hd
  · cases he

theorem gto_good {c : Chain} {l : List Gauge} {p : Nat → Bool} {M : IM} (hM : Good c.n M) (hg : l.all (gaugeOk c.links) = true) : ∀ k M', k ≤ l.length → gto c.n l p M k = some M' → Good c.n M' := by
  intro k
  induction k with
  | zero => intro M' _ h; simp only [gto, Option.some.injEq] at h; subst h; exact hM
  | succ k ih =>
    intro M' hk h
    simp only [gto] at h
    cases hq : gto c.n l p M k with
    | none => rw [hq] at h; cases h
    | some M1 =>
      rw [hq] at h
      simp only at h
      have h1 := ih M1 (by omega) hq
      split at h
      · have hgk := getD_ok hg (show k < l.length by omega)
        unfold gaugeOk at hgk
        simp only [decide_eq_true_eq] at hgk
        exact gOne_good h1 (by unfold Chain.n; omega) (by unfold Chain.n; omega) h
      · simp only [Option.some.injEq] at h; subst h; exact h1
end Go.Proofs.Ytdfjdkhgdmndjaa
