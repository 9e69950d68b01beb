/- The data of layer 2, and how they lie in memory. Layer 2, plain: how far the ends of a chain can lie apart. Layer 2, plain: one end after the other is fixed. Layer 2, plain: the document's net, and that it is the web. Layer 2, plain: what the spans of a web are, and the gauges that a witness adds. Parts and uses: the data, and what the program computes of them. Stores of whole structs into owned slices; boxes said otherwise. -/
import Derived.Test.YtdepakimbagonaaE2
namespace Go.Proofs.Ytdepakimbagonaa
set_option linter.unusedVariables false
set_option linter.unusedSimpArgs false
open Go.RowKit

structure Chain where
  links : Int
  pitch : Int
  limit : Int
structure Gauge where
  fr : Int
  to : Int
  lo : Int
  hi : Int

def Gauge.zero : Gauge := ⟨0, 0, 0, 0⟩
def Gauge.cell (g : Gauge) : Nat → Value
  | 0 => .int .i64 g.fr
  | 1 => .int .i64 g.to
  | 2 => .int .i64 g.lo
  | _ => .int .i64 g.hi
def gcell (l : List Gauge) (k j : Nat) : Value := (l.getD k Gauge.zero).cell j
abbrev Chain.val (c : Chain) : Value := .agg [.int .i64 c.links, .int .i64 c.pitch, .int .i64 c.limit].toArray

def chainOk (c : Chain) : Bool := decide (1 ≤ c.links ∧ c.links ≤ 24 ∧ 1 ≤ c.pitch ∧ c.pitch ≤ c.limit ∧ c.limit ≤ 100000)
def gaugeOk (links : Int) (g : Gauge) : Bool := decide (0 ≤ g.fr ∧ g.fr < g.to ∧ g.to ≤ links ∧ 0 ≤ g.lo ∧ g.lo ≤ g.hi ∧ g.hi ≤ 10000000)
def checkE (c : Chain) (l : List Gauge) : Int :=
  if chainOk c then (if l.length ≤ 40 then (if l.all (gaugeOk c.links) then 0 else 21) else 2) else 20

theorem all_take {α : Type} {l : List α} {p : α → Bool} {k : Nat} {d : α} (hk : k < l.length) (h : (l.take k).all p = true) (hp : p (l.getD k d) = true) : (l.take (k + 1)).all p = true := by
  rw [List.take_succ_eq_append_getElem hk, List.all_append, h]
  simp only [List.getD_eq_getElem?_getD, List.getElem?_eq_getElem hk, Option.getD_some] at hp
  simp [hp]
theorem all_false {α : Type} {l : List α} {p : α → Bool} {k : Nat} {d : α} (hk : k < l.length) (hp : p (l.getD k d) = false) : l.all p = false := by
  simp only [List.getD_eq_getElem?_getD, List.getElem?_eq_getElem hk, Option.getD_some] at hp
  rw [← Bool.not_eq_true, List.all_eq_true]
  intro h
  have := h _ (List.getElem_mem hk)
  rw [hp] at this
  cases this
end Go.Proofs.Ytdepakimbagonaa

namespace Go.Proofs.Ytdepakimbagonaa
set_option linter.unusedVariables false
set_option linter.unusedSimpArgs false

abbrev IM := Nat → Nat → Int

/-! ## one arc more -/
section
variable (M : IM) (a b : Nat) (far : Int)
def vba : Int := min (M b a) (M b a + far + M b a)
def vb (y : Nat) : Int := min (M b y) ((if a < y then vba M a b far else M b a) + far + M b y)
def vxa (x : Nat) : Int := min (M x a) (M x a + far + (if b < x then vb M a b far a else M b a))
/-- What the loop over all pairs of ends leaves, in place. -/
def rel : IM := fun x y => min (M x y) ((if a < y then vxa M a b far x else M x a) + far + (if b < x then vb M a b far y else M b y))
/-- .. so far done: all rows before p, and row p up to q. -/
def stg (p q : Nat) : IM := fun x y => if x < p ∨ (x = p ∧ y < q) then rel M a b far x y else M x y
end

theorem rel_b (M : IM) (a b : Nat) (far : Int) (y : Nat) : rel M a b far b y = vb M a b far y := by
  unfold rel vb vxa vba
  simp
theorem rel_a (M : IM) (a b : Nat) (far : Int) (x : Nat) : rel M a b far x a = vxa M a b far x := by
  unfold rel vxa
  simp
/-- What the round at (p, q) writes. -/
theorem stg_new (M : IM) (a b : Nat) (far : Int) (p q : Nat) : min (stg M a b far p q p q) (stg M a b far p q p a + far + stg M a b far p q b q) = rel M a b far p q := by
  have e1 : stg M a b far p q p q = M p q := by unfold stg; rw [if_neg (by omega)]
  have e2 : stg M a b far p q p a = if a < q then vxa M a b far p else M p a := by
    unfold stg
    by_cases h : a < q
    · rw [if_pos (by omega), if_pos h, rel_a]
    · rw [if_neg (by omega), if_neg h]
  have e3 : stg M a b far p q b q = if b < p then vb M a b far q else M b q := by
    unfold stg
    by_cases h : b < p
    · rw [if_pos (by omega), if_pos h, rel_b]
    · rw [if_neg (by omega), if_neg h]
  rw [e1, e2, e3]
  rfl
theorem stg_step (M : IM) (a b : Nat) (far : Int) (p q x y : Nat) : mset (stg M a b far p q) p q (rel M a b far p q) x y = stg M a b far p (q + 1) x y := by
  unfold mset
  by_cases h : x = p ∧ y = q
  · rw [if_pos h]; obtain ⟨rfl, rfl⟩ := h; unfold stg; rw [if_pos (by omega)]
  · rw [if_neg h]; unfold stg
    by_cases h2 : x < p ∨ (x = p ∧ y < q)
    · rw [if_pos h2, if_pos (by omega)]
    · rw [if_neg h2, if_neg (by omega)]
theorem stg_row (M : IM) (a b : Nat) (far : Int) (n p x y : Nat) (hy : y < n) : stg M a b far p n x y = stg M a b far (p + 1) 0 x y := by
  unfold stg
  by_cases h2 : x < p ∨ (x = p ∧ y < n)
  · rw [if_pos h2, if_pos (by omega)]
  · rw [if_neg h2, if_neg (by omega)]
theorem stg_zero (M : IM) (a b : Nat) (far : Int) (x y : Nat) : stg M a b far 0 0 x y = M x y := by
  unfold stg; rw [if_neg (by omega)]
theorem stg_all (M : IM) (a b : Nat) (far : Int) (n x y : Nat) (hx : x < n) : stg M a b far n 0 x y = rel M a b far x y := by
  unfold stg; rw [if_pos (by omega)]

def bdd (n : Nat) (B : Int) (M : IM) : Prop := ∀ x y, x < n → y < n → -B ≤ M x y ∧ M x y ≤ B

theorem rel_bd {n : Nat} {B : Int} {M : IM} {a b : Nat} {far : Int} (hM : bdd n B M) (ha : a < n) (hb : b < n) (hf : -B ≤ far ∧ far ≤ B) : bdd n (11 * B) (rel M a b far) := by
  intro x y hx hy
  have h1 := hM x y hx hy
  have h2 := hM x a hx ha
  have h3 := hM b y hb hy
  have h4 := hM b a hb ha
  unfold rel vxa vb vba
  constructor
  · simp only [Int.le_min]
    constructor
    · omega
    · repeat' split
      all_goals omega
  · have : ∀ z : Int, min (M x y) z ≤ 11 * B := fun z => by omega
    exact this _
theorem stg_bd {n : Nat} {B : Int} {M : IM} {a b : Nat} {far : Int} (hM : bdd n B M) (ha : a < n) (hb : b < n) (hf : -B ≤ far ∧ far ≤ B) (p q : Nat) : bdd n (11 * B) (stg M a b far p q) := by
  intro x y hx hy
  unfold stg
  split
  · exact rel_bd hM ha hb hf x y hx hy
  · have := hM x y hx hy; omega

/-- The arc is added, if it says more than what is known. -/
def arc (M : IM) (a b : Nat) (far : Int) : IM := if M a b ≤ far then M else rel M a b far
def tightM (M : IM) (i j : Nat) (lo hi : Int) : IM := arc (arc M i j hi) j i (-lo)
def diagB (n : Nat) (M : IM) : Bool := (List.range n).all fun k => decide (0 ≤ M k k)
theorem arc_bd {n : Nat} {B : Int} {M : IM} {a b : Nat} {far : Int} (hM : bdd n B M) (ha : a < n) (hb : b < n) (hf : -B ≤ far ∧ far ≤ B) : bdd n (11 * B) (arc M a b far) := by
  unfold arc
  split
  · intro x y hx hy; have := hM x y hx hy; omega
  · exact rel_bd hM ha hb hf

theorem range_all_succ {n k : Nat} {p : Nat → Bool} : (List.range (k + 1)).all p = ((List.range k).all p && p k) := by
  rw [List.range_succ, List.all_append]; simp
theorem range_all_false {n k : Nat} {p : Nat → Bool} (hk : k < n) (h : p k = false) : (List.range n).all p = false := by
  rw [← Bool.not_eq_true, List.all_eq_true]
  intro hh
  have := hh k (List.mem_range.2 hk)
  rw [h] at this
  cases this

/-- The two arcs of a span, one after the other. -/
def arcs (M : IM) (i j : Nat) (lo hi : Int) : Nat → IM
  | 0 => M
  | 1 => arc M i j hi
  | _ => tightM M i j lo hi
def xa (i j k : Nat) : Nat := if k = 0 then i else j
def xb (i j k : Nat) : Nat := if k = 0 then j else i
def xf (lo hi : Int) (k : Nat) : Int := if k = 0 then hi else -lo
theorem arcs_succ (M : IM) (i j : Nat) (lo hi : Int) (k : Nat) (hk : k < 2) : arcs M i j lo hi (k + 1) = arc (arcs M i j lo hi k) (xa i j k) (xb i j k) (xf lo hi k) := by
  have : k = 0 ∨ k = 1 := by omega
  rcases this with rfl | rfl <;> rfl
theorem arcs_bd {n : Nat} {B : Int} {M : IM} {i j : Nat} {lo hi : Int} (hM : bdd n B M) (h1 : i < n) (h2 : j < n) (hf : -B ≤ hi ∧ hi ≤ B) (k : Nat) (hk : k < 2) : bdd n (11 * B) (arcs M i j lo hi k) := by
  have : k = 0 ∨ k = 1 := by omega
  rcases this with rfl | rfl
  · intro x y hx hy; have := hM x y hx hy; show _ ≤ M x y ∧ M x y ≤ _; omega
  · exact arc_bd hM h1 h2 hf
theorem xcut (i j k : Nat) (lo hi : Int) (hk : k < 2) : (([.int .i64 (i : Int), .int .i64 (j : Int), .int .i64 hi, .int .i64 (j : Int), .int .i64 (i : Int), .int .i64 (-lo)] : List Value).drop ((k : Int).toNat * 3)).take 3 =
    [.int .i64 (xa i j k : Int), .int .i64 (xb i j k : Int), .int .i64 (xf lo hi k)] := by
  have : k = 0 ∨ k = 1 := by omega
  rcases this with rfl | rfl <;> rfl

/-! ## matrices that are closed -/
def wide : Int := 1099511627776
structure Good (n : Nat) (M : IM) : Prop where
  diag : ∀ x, x < n → M x x = 0
  tri : ∀ x y z, x < n → y < n → z < n → M x z ≤ M x y + M y z
  top : ∀ x y, x < n → y < n → M x y ≤ wide

theorem Good.low {n : Nat} {M : IM} (h : Good n M) {x y : Nat} (hx : x < n) (hy : y < n) : -wide ≤ M x y := by
  have h1 := h.tri x y x hx hy hx
  have h2 := h.diag x hx
  have h3 := h.top y x hy hx
  omega
theorem Good.bdd {n : Nat} {M : IM} (h : Good n M) : bdd n 2199023255552 M := fun x y hx hy => by
  have h1 := h.low hx hy
  have h2 := h.top x y hx hy
  unfold wide at *
  omega
theorem Good.bdd1 {n : Nat} {M : IM} (h : Good n M) : Go.Proofs.Ytdepakimbagonaa.bdd n 1099511627776 M := fun x y hx hy => ⟨h.low hx hy, h.top x y hx hy⟩

/-- The arc added at once. -/
theorem rel_closed {n : Nat} {M : IM} {a b : Nat} {far : Int} (h : Good n M) (ha : a < n) (hb : b < n) (hn : 0 ≤ far + M b a) (x y : Nat) (hx : x < n) (hy : y < n) : rel M a b far x y = min (M x y) (M x a + far + M b y) := by
  have e1 : vba M a b far = M b a := by unfold vba; omega
  have e2 : ∀ y, y < n → vb M a b far y = M b y := by
    intro y hy
    have := h.tri b a y hb ha hy
    unfold vb
    rw [e1]
    have h3 : 0 ≤ far + M b a := hn
    split <;> omega
  have e3 : ∀ x, vxa M a b far x = M x a := by
    intro x
    unfold vxa
    rw [e2 a ha]
    split <;> omega
  unfold rel
  rw [e2 y hy, e3 x]
  simp only [ite_self]

theorem rel_le (M : IM) (a b : Nat) (far : Int) (x y : Nat) : rel M a b far x y ≤ M x y := by unfold rel; omega

theorem rel_neg {n : Nat} {M : IM} {a b : Nat} {far : Int} (h : Good n M) (ha : a < n) (hb : b < n) (hn : far + M b a < 0) : rel M a b far a a < 0 := by
  have h1 := h.diag a ha
  have h2 : vb M a b far a ≤ M b a := by unfold vb; omega
  unfold rel
  simp only [Nat.lt_irrefl, if_false]
  split <;> omega

theorem rel_good {n : Nat} {M : IM} {a b : Nat} {far : Int} (h : Good n M) (ha : a < n) (hb : b < n) (hn : 0 ≤ far + M b a) : Good n (rel M a b far) := by
  refine ⟨fun x hx => ?_, fun x y z hx hy hz => ?_, fun x y hx hy => ?_⟩
  · rw [rel_closed h ha hb hn x x hx hx]
    have h1 := h.diag x hx
    have h2 := h.tri b x a hb hx ha
    omega
  · rw [rel_closed h ha hb hn x z hx hz, rel_closed h ha hb hn x y hx hy, rel_closed h ha hb hn y z hy hz]
    have h1 := h.tri x y z hx hy hz
    have h2 := h.tri b y z hb hy hz
    have h3 := h.tri x y a hx hy ha
    have h4 := h.tri b y a hb hy ha
    omega
  · have := rel_le M a b far x y
    have := h.top x y hx hy
    omega

theorem arc_le (M : IM) (a b : Nat) (far : Int) (x y : Nat) : arc M a b far x y ≤ M x y := by
  unfold arc; split
  · exact Int.le_refl _
  · exact rel_le _ _ _ _ _ _

/-- An arc between two ends: closed, or it shows at the diagonal. -/
theorem arc_cases {n : Nat} {M : IM} {a b : Nat} {far : Int} (h : Good n M) (ha : a < n) (hb : b < n) :
    (Good n (arc M a b far) ∧ (∀ x y, x < n → y < n → arc M a b far x y = min (M x y) (M x a + far + M b y)) ∧ 0 ≤ far + M b a) ∨ (far + M b a < 0 ∧ ∃ k, k < n ∧ arc M a b far k k < 0) := by
  unfold arc
  by_cases hle : M a b ≤ far
  · rw [if_pos hle]
    have h0 : 0 ≤ far + M b a := by have := h.tri a b a ha hb ha; have := h.diag a ha; omega
    refine .inl ⟨h, fun x y hx hy => ?_, h0⟩
    have h1 := h.tri x a y hx ha hy
    have h2 := h.tri a b y ha hb hy
    omega
  · rw [if_neg hle]
    by_cases hn : 0 ≤ far + M b a
    · exact .inl ⟨rel_good h ha hb hn, fun x y hx hy => rel_closed h ha hb hn x y hx hy, hn⟩
    · exact .inr ⟨by omega, a, ha, rel_neg h ha hb (by omega)⟩

theorem diagB_iff {n : Nat} {M : IM} : diagB n M = true ↔ ∀ k, k < n → 0 ≤ M k k := by
  unfold diagB
  rw [List.all_eq_true]
  constructor
  · intro h k hk; simpa using h k (List.mem_range.2 hk)
  · intro h k hk; simpa using h k (List.mem_range.1 hk)

theorem tight_good {n : Nat} {M : IM} {i j : Nat} {lo hi : Int} (h : Good n M) (hi' : i < n) (hj : j < n) (hd : diagB n (tightM M i j lo hi) = true) : Good n (tightM M i j lo hi) := by
  rw [diagB_iff] at hd
  unfold tightM at *
  rcases arc_cases (far := hi) h hi' hj with ⟨h1, _⟩ | ⟨_, k, hk, hneg⟩
  · rcases arc_cases (far := -lo) h1 hj hi' with ⟨h2, _⟩ | ⟨_, k, hk, hneg⟩
    · exact h2
    · have := hd k hk; omega
  · have h1 := hd k hk
    have h2 := arc_le (arc M i j hi) j i (-lo) k k
    omega

/-- E lies under M, and is additive. -/
structure Under (n : Nat) (E M : IM) : Prop where
  le : ∀ x y, x < n → y < n → E x y ≤ M x y
  add : ∀ x y z, x < n → y < n → z < n → E x z = E x y + E y z

theorem Under.arc {n : Nat} {E M : IM} {a b : Nat} {far : Int} (h : Under n E M) (ha : a < n) (hb : b < n) (hf : E a b ≤ far) : Under n E (arc M a b far) := by
  refine ⟨fun x y hx hy => ?_, h.add⟩
  unfold Go.Proofs.Ytdepakimbagonaa.arc
  split
  · exact h.le x y hx hy
  · have q1 := h.le x y hx hy
    have q2 := h.le x a hx ha
    have q3 := h.le b y hb hy
    have q4 := h.le b a hb ha
    have a1 := h.add x a y hx ha hy
    have a2 := h.add a b y ha hb hy
    have a3 := h.add b a y hb ha hy
    have a4 := h.add x b a hx hb ha
    have a5 := h.add x a b hx ha hb
    have a6 := h.add b a a hb ha ha
    have a7 := h.add b b a hb hb ha
    have a8 := h.add a b a ha hb ha
    unfold rel vxa vb vba
    repeat' split
    all_goals omega

theorem Under.tight {n : Nat} {E M : IM} {i j : Nat} {lo hi : Int} (h : Under n E M) (hi' : i < n) (hj : j < n) (h1 : lo ≤ E i j) (h2 : E i j ≤ hi) : Under n E (tightM M i j lo hi) := by
  have h0 := h.add i j i hi' hj hi'
  have h00 := h.add i i i hi' hi' hi'
  exact (h.arc hi' hj h2).arc hj hi' (by omega)

theorem Under.diag {n : Nat} {E M : IM} (h : Under n E M) : diagB n M = true := by
  rw [diagB_iff]
  intro k hk
  have h1 := h.le k k hk hk
  have h2 := h.add k k k hk hk hk
  omega

def M0 : IM := fun x y => if x = y then 0 else wide
theorem M0_good (n : Nat) : Good n M0 := by
  refine ⟨fun x _ => by simp [M0], fun x y z _ _ _ => ?_, fun x y _ _ => ?_⟩
  · unfold M0 wide; repeat' split
    all_goals omega
  · unfold M0 wide; split <;> omega

/-- The web of the links alone. -/
def linksTo (c : Chain) : Nat → IM
  | 0 => M0
  | k + 1 => tightM (linksTo c k) k (k + 1) c.pitch c.limit

theorem linksTo_ok {c : Chain} (hc : chainOk c = true) {n : Nat} (hn : n ≤ 25) : ∀ k, k < n → Good n (linksTo c k) ∧ Under n (fun x y => ((y : Int) - x) * c.pitch) (linksTo c k) := by
  unfold chainOk at hc
  simp only [decide_eq_true_eq] at hc
  obtain ⟨_, _, hp, hpl, hl⟩ := hc
  intro k
  induction k with
  | zero =>
    intro _
    refine ⟨M0_good n, ⟨fun x y hx hy => ?_, fun x y z _ _ _ => ?_⟩⟩
    · unfold linksTo M0 wide
      split
      · rename_i e; subst e; rw [Int.sub_self, Int.zero_mul]; exact Int.le_refl _
      · have h1 : ((y : Int) - x) * c.pitch ≤ 25 * 100000 := by
          rcases Int.le_total ((y : Int) - x) 0 with h | h
          · have := Int.mul_nonneg (show (0 : Int) ≤ -((y : Int) - x) by omega) (show (0 : Int) ≤ c.pitch by omega)
            rw [Int.neg_mul] at this
            omega
          · exact Int.mul_le_mul (by omega) (by omega) (by omega) (by omega)
        omega
    · show ((z : Int) - x) * c.pitch = ((y : Int) - x) * c.pitch + ((z : Int) - y) * c.pitch
      rw [← Int.add_mul]; congr 1; omega
  | succ k ih =>
    intro hk
    obtain ⟨h1, h2⟩ := ih (by omega)
    have e : (((k + 1 : Nat) : Int) - (k : Int)) * c.pitch = c.pitch := by
      have : (((k + 1 : Nat) : Int) - (k : Int)) = 1 := by omega
      rw [this, Int.one_mul]
    have h3 := h2.tight (lo := c.pitch) (hi := c.limit) (i := k) (j := k + 1) (by omega) hk (by show c.pitch ≤ (((k + 1 : Nat) : Int) - (k : Int)) * c.pitch; omega) (by show (((k + 1 : Nat) : Int) - (k : Int)) * c.pitch ≤ c.limit; omega)
    exact ⟨tight_good h1 (by omega) hk h3.diag, h3⟩

/-- One gauge more. -/
def gOne (n : Nat) (M : IM) (g : Gauge) : Option IM :=
  if diagB n (tightM M g.fr.toNat g.to.toNat g.lo g.hi) then some (tightM M g.fr.toNat g.to.toNat g.lo g.hi) else none
/-- The first k gauges, those that are wanted. -/
def gto (n : Nat) (l : List Gauge) (p : Nat → Bool) (M : IM) : Nat → Option IM
  | 0 => some M
  | k + 1 => match gto n l p M k with
    | none => none
    | some M' => if p k then gOne n M' (l.getD k Gauge.zero) else some M'
def Chain.n (c : Chain) : Nat := c.links.toNat + 1
def weaveW (c : Chain) (l : List Gauge) (p : Nat → Bool) : Option IM := gto c.n l p (linksTo c c.links.toNat) l.length

theorem gto_none {n : Nat} {l : List Gauge} {p : Nat → Bool} {M : IM} {k : Nat} (h : gto n l p M k = none) : ∀ m, k ≤ m → gto n l p M m = none := by
  intro m
  induction m with
  | zero => intro hm; have : k = 0 := by omega
            subst this; exact h
  | succ m ih =>
    intro hm
    rcases Nat.lt_or_ge m k with h1 | h1
    · have : k = m + 1 := by omega
      subst this; exact h
    · simp only [gto, ih h1]

theorem getD_ok {l : List Gauge} {links : Int} (hg : l.all (gaugeOk links) = true) {k : Nat} (hk : k < l.length) : gaugeOk links (l.getD k Gauge.zero) = true := by
  rw [List.getD_eq_getElem?_getD, List.getElem?_eq_getElem hk]
  exact List.all_eq_true.1 hg _ (List.getElem_mem hk)

theorem gOne_good {n : Nat} {M M' : IM} {g : Gauge} (h : Good n M) (hf : g.fr.toNat < n) (ht : g.to.toNat < n) (he : gOne n M g = some M') : Good n M' := by
  unfold gOne at he
  split at he
  · rename_i hd
    simp only [Option.some.injEq] at he
    subst he
    exact tight_good h hf ht hd
  · cases he

theorem gto_good {c : Chain} {l : List Gauge} {p : Nat → Bool} {M : IM} (hM : Good c.n M) (hg : l.all (gaugeOk c.links) = true) : ∀ k M', k ≤ l.length → gto c.n l p M k = some M' → Good c.n M' := by
  intro k
  induction k with
  | zero => intro M' _ h; simp only [gto, Option.some.injEq] at h; subst h; exact hM
  | succ k ih =>
    intro M' hk h
    simp only [gto] at h
    cases hq : gto c.n l p M k with
    | none => rw [hq] at h; cases h
    | some M1 =>
      rw [hq] at h
      simp only at h
      have h1 := ih M1 (by omega) hq
      split at h
      · have hgk := getD_ok hg (show k < l.length by omega)
        unfold gaugeOk at hgk
        simp only [decide_eq_true_eq] at hgk
        exact gOne_good h1 (by unfold Chain.n; omega) (by unfold Chain.n; omega) h
      · simp only [Option.some.injEq] at h; subst h; exact h1
end Go.Proofs.Ytdepakimbagonaa

namespace Go.Proofs.Ytdepakimbagonaa
set_option linter.unusedVariables false
set_option linter.unusedSimpArgs false

/-- A span of one length, which may be. -/
theorem tight_pin {n : Nat} {M : IM} {i j : Nat} {v : Int} (h : Good n M) (hi : i < n) (hj : j < n) (h1 : -(M j i) ≤ v) (h2 : v ≤ M i j) :
    Good n (tightM M i j v v) ∧ tightM M i j v v i j = v ∧ tightM M i j v v j i = -v := by
  unfold tightM
  have di := h.diag i hi
  have dj := h.diag j hj
  rcases arc_cases (far := v) h hi hj with ⟨g1, f1, _⟩ | ⟨hn, _⟩
  · have e1 := f1 i j hi hj
    have e2 := f1 j i hj hi
    have e3 := g1.diag i hi
    have e4 := g1.diag j hj
    have t1 := h.tri j i j hj hi hj
    rcases arc_cases (far := -v) g1 hj hi with ⟨g2, f2, _⟩ | ⟨hn, _⟩
    · refine ⟨g2, ?_, ?_⟩
      · rw [f2 i j hi hj]; omega
      · rw [f2 j i hj hi]; omega
    · omega
  · omega

def witS (M : IM) (a b : Nat) (len : Int) : IM := if a < b then tightM M a b len len else M
def witM (M : IM) : Nat → IM
  | 0 => M
  | k + 1 => tightM (witM M k) k (k + 1) (-(witM M k (k + 1) k)) (-(witM M k (k + 1) k))
def witN (M : IM) (k : Nat) : Int := -(witM M k (k + 1) k)

theorem witS_good {n : Nat} {M : IM} {a b : Nat} {len : Int} (h : Good n M) (ha : a < n) (hb : b < n) (h1 : -(M b a) ≤ len) (h2 : len ≤ M a b) : Good n (witS M a b len) := by
  unfold witS
  split
  · exact (tight_pin h ha hb h1 h2).1
  · exact h
theorem witM_good {n : Nat} {M : IM} (h : Good n M) : ∀ k, k < n → Good n (witM M k) := by
  intro k
  induction k with
  | zero => intro _; exact h
  | succ k ih =>
    intro hk
    have g := ih (by omega)
    have h1 := g.tri k (k + 1) k (by omega) hk (by omega)
    have h2 := g.diag k (by omega)
    exact (tight_pin g (by omega) hk (Int.le_refl _) (by omega)).1
end Go.Proofs.Ytdepakimbagonaa

namespace Go.Proofs.Ytdepakimbagonaa
set_option linter.unusedVariables false
set_option linter.unusedSimpArgs false

/-- M is the greatest closed matrix with a property. -/
structure Best (n : Nat) (C : IM → Prop) (M : IM) : Prop where
  good : Good n M
  sat : C M
  best : ∀ E, Good n E → C E → ∀ x y, x < n → y < n → E x y ≤ M x y

theorem Best.same {n : Nat} {C : IM → Prop} {M M' : IM} (h : Best n C M) (h' : Best n C M') : ∀ x y, x < n → y < n → M x y = M' x y := by
  intro x y hx hy
  have h1 := h.best M' h'.good h'.sat x y hx hy
  have h2 := h'.best M h.good h.sat x y hx hy
  omega

theorem Best.arc {n : Nat} {C : IM → Prop} {M : IM} {a b : Nat} {far : Int} (h : Best n C M) (hle : ∀ M', (∀ x y, x < n → y < n → M' x y ≤ M x y) → C M') (ha : a < n) (hb : b < n) (hf : 0 ≤ far + M b a) :
    Best n (fun E => C E ∧ E a b ≤ far) (Go.Proofs.Ytdepakimbagonaa.arc M a b far) := by
  rcases arc_cases (far := far) h.good ha hb with ⟨g, f, _⟩ | ⟨h1, _⟩
  · refine ⟨g, ⟨hle _ fun x y hx hy => arc_le M a b far x y, ?_⟩, fun E hE ⟨hC, hab⟩ x y hx hy => ?_⟩
    · have h1 := h.good.diag a ha
      have h2 := h.good.diag b hb
      rw [f a b ha hb]; omega
    · rw [f x y hx hy]
      have e1 := h.best E hE hC x y hx hy
      have e2 := h.best E hE hC x a hx ha
      have e3 := h.best E hE hC b y hb hy
      have e4 := hE.tri x a y hx ha hy
      have e5 := hE.tri a b y ha hb hy
      omega
  · omega

theorem Best.noArc {n : Nat} {C : IM → Prop} {M : IM} {a b : Nat} {far : Int} (h : Best n C M) (ha : a < n) (hb : b < n) (hf : far + M b a < 0) (E : IM) (hE : Good n E) (hC : C E) : ¬ E a b ≤ far := by
  intro hab
  have e1 := h.best E hE hC b a hb ha
  have e2 := hE.tri a b a ha hb ha
  have e3 := hE.diag a ha
  omega

/-- A span. -/
def inSpan (i j : Nat) (lo hi : Int) (E : IM) : Prop := E i j ≤ hi ∧ E j i ≤ -lo
def lower (n : Nat) (C : IM → Prop) : Prop := ∀ M M' : IM, C M → (∀ x y, x < n → y < n → M' x y ≤ M x y) → C M'
theorem lower_span {n : Nat} {C : IM → Prop} {i j : Nat} {lo hi : Int} (h : lower n C) (hi' : i < n) (hj : j < n) : lower n (fun E => C E ∧ inSpan i j lo hi E) := by
  intro M M' ⟨h1, h2, h3⟩ hle
  have e1 := hle i j hi' hj
  have e2 := hle j i hj hi'
  exact ⟨h M M' h1 hle, by omega, by omega⟩

theorem Best.tight {n : Nat} {C : IM → Prop} {M : IM} {i j : Nat} {lo hi : Int} (h : Best n C M) (hl : lower n C) (hi' : i < n) (hj : j < n) (hd : diagB n (tightM M i j lo hi) = true) :
    Best n (fun E => C E ∧ inSpan i j lo hi E) (tightM M i j lo hi) := by
  rw [diagB_iff] at hd
  unfold tightM at *
  rcases arc_cases (far := hi) h.good hi' hj with ⟨g1, f1, p1⟩ | ⟨_, k, hk, hneg⟩
  · have b1 := h.arc (fun M' h' => hl _ _ h.sat h') hi' hj p1
    rcases arc_cases (far := -lo) g1 hj hi' with ⟨g2, f2, p2⟩ | ⟨_, k, hk, hneg⟩
    · have b2 := b1.arc (fun M' h' => ⟨hl _ _ b1.sat.1 h', by have := h' i j hi' hj; have := b1.sat.2; omega⟩) hj hi' p2
      exact ⟨b2.good, ⟨b2.sat.1.1, b2.sat.1.2, b2.sat.2⟩, fun E hE ⟨hC, h1, h2⟩ => b2.best E hE ⟨⟨hC, h1⟩, h2⟩⟩
    · have := hd k hk; omega
  · have h1 := hd k hk
    have h2 := arc_le (Go.Proofs.Ytdepakimbagonaa.arc M i j hi) j i (-lo) k k
    omega

theorem Best.noTight {n : Nat} {C : IM → Prop} {M : IM} {i j : Nat} {lo hi : Int} (h : Best n C M) (hl : lower n C) (hi' : i < n) (hj : j < n) (hd : diagB n (tightM M i j lo hi) = false) (E : IM) (hE : Good n E) (hC : C E) : ¬ inSpan i j lo hi E := by
  rintro ⟨h1, h2⟩
  rcases arc_cases (far := hi) h.good hi' hj with ⟨g1, f1, p1⟩ | ⟨p1, _⟩
  · have b1 := h.arc (fun M' h' => hl _ _ h.sat h') hi' hj p1
    rcases arc_cases (far := -lo) g1 hj hi' with ⟨g2, _, _⟩ | ⟨p2, _⟩
    · have : diagB n (tightM M i j lo hi) = true := by
        rw [diagB_iff]
        intro k hk
        have := g2.diag k hk
        unfold tightM
        omega
      rw [hd] at this
      cases this
    · exact b1.noArc hj hi' p2 E hE ⟨hC, h1⟩ h2
  · exact h.noArc hi' hj p1 E hE hC h1

/-- What the chain's links and the first k gauges ask. -/
def satL (c : Chain) : Nat → IM → Prop
  | 0 => fun _ => True
  | k + 1 => fun E => satL c k E ∧ inSpan k (k + 1) c.pitch c.limit E
def satG (c : Chain) (l : List Gauge) (p : Nat → Bool) : Nat → IM → Prop
  | 0 => satL c c.links.toNat
  | k + 1 => fun E => satG c l p k E ∧ (p k = true → inSpan (l.getD k Gauge.zero).fr.toNat (l.getD k Gauge.zero).to.toNat (l.getD k Gauge.zero).lo (l.getD k Gauge.zero).hi E)

theorem satL_lower {c : Chain} {n : Nat} : ∀ k, k < n → lower n (satL c k) := by
  intro k
  induction k with
  | zero => intro _ _ _ _ _; trivial
  | succ k ih => intro hk; exact lower_span (ih (by omega)) (by omega) (by omega)
theorem gauge_in {c : Chain} {l : List Gauge} (hg : l.all (gaugeOk c.links) = true) {k : Nat} (hk : k < l.length) : (l.getD k Gauge.zero).fr.toNat < c.n ∧ (l.getD k Gauge.zero).to.toNat < c.n := by
  have h := getD_ok hg hk
  unfold gaugeOk at h
  simp only [decide_eq_true_eq] at h
  unfold Chain.n
  omega
theorem satG_lower {c : Chain} {l : List Gauge} {p : Nat → Bool} (hg : l.all (gaugeOk c.links) = true) : ∀ k, k ≤ l.length → lower c.n (satG c l p k) := by
  intro k
  induction k with
  | zero => intro _; exact satL_lower _ (by unfold Chain.n; omega)
  | succ k ih =>
    intro hk M M' ⟨h1, h2⟩ hle
    obtain ⟨g1, g2⟩ := gauge_in hg (show k < l.length by omega)
    refine ⟨ih (by omega) M M' h1 hle, fun hp => ?_⟩
    have := h2 hp
    have e1 := hle _ _ g1 g2
    have e2 := hle _ _ g2 g1
    unfold inSpan at *
    omega

theorem linksTo_best {c : Chain} (hc : chainOk c = true) {n : Nat} (hn : n ≤ 25) : ∀ k, k < n → Best n (satL c k) (linksTo c k) := by
  intro k
  induction k with
  | zero =>
    intro _
    refine ⟨M0_good n, trivial, fun E hE _ x y hx hy => ?_⟩
    show E x y ≤ M0 x y
    unfold M0
    split
    · rename_i e; subst e; have := hE.diag x hx; omega
    · exact hE.top x y hx hy
  | succ k ih =>
    intro hk
    have h1 := (linksTo_ok hc hn (k + 1) hk).1
    have hd : diagB n (tightM (linksTo c k) k (k + 1) c.pitch c.limit) = true := by
      rw [diagB_iff]; intro x hx; have := h1.diag x hx; unfold linksTo at this; omega
    exact (ih (by omega)).tight (satL_lower k (by omega)) (by omega) hk hd

theorem gto_best {c : Chain} {l : List Gauge} {p : Nat → Bool} (hc : chainOk c = true) (hg : l.all (gaugeOk c.links) = true) : ∀ k, k ≤ l.length →
    match gto c.n l p (linksTo c c.links.toNat) k with
    | some M => Best c.n (satG c l p k) M
    | none => ∀ E, Good c.n E → ¬ satG c l p k E := by
  have hc' := hc
  unfold chainOk at hc'
  simp only [decide_eq_true_eq] at hc'
  have hn : c.n ≤ 25 := by unfold Chain.n; omega
  intro k
  induction k with
  | zero => intro _; exact linksTo_best hc hn _ (by unfold Chain.n; omega)
  | succ k ih =>
    intro hk
    have h := ih (by omega)
    simp only [gto]
    cases hq : gto c.n l p (linksTo c c.links.toNat) k with
    | none =>
      rw [hq] at h
      exact fun E hE ⟨h1, _⟩ => h E hE h1
    | some M =>
      rw [hq] at h
      simp only at h ⊢
      obtain ⟨g1, g2⟩ := gauge_in hg (show k < l.length by omega)
      cases hp : p k with
      | false =>
        simp only [Bool.false_eq_true, if_false]
        exact ⟨h.good, ⟨h.sat, fun h' => by rw [hp] at h'; cases h'⟩, fun E hE ⟨h1, _⟩ => h.best E hE h1⟩
      | true =>
        simp only [if_true]
        unfold gOne
        cases hd : diagB c.n (tightM M (l.getD k Gauge.zero).fr.toNat (l.getD k Gauge.zero).to.toNat (l.getD k Gauge.zero).lo (l.getD k Gauge.zero).hi) with
        | true =>
          simp only [if_true]
          have b := h.tight (satG_lower hg k (by omega)) g1 g2 hd
          exact ⟨b.good, ⟨b.sat.1, fun _ => b.sat.2⟩, fun E hE ⟨h1, h2⟩ => b.best E hE ⟨h1, h2 hp⟩⟩
        | false =>
          simp only [Bool.false_eq_true, if_false]
          exact fun E hE ⟨h1, h2⟩ => h.noTight (satG_lower hg k (by omega)) g1 g2 hd E hE h1 (h2 hp)

theorem weave_best {c : Chain} {l : List Gauge} {p : Nat → Bool} (hc : chainOk c = true) (hg : l.all (gaugeOk c.links) = true) :
    match weaveW c l p with
    | some M => Best c.n (satG c l p l.length) M
    | none => ∀ E, Good c.n E → ¬ satG c l p l.length E := gto_best hc hg l.length (Nat.le_refl _)

/-! ## the document's net -/
def linkR (c : Chain) (k : Nat) : IM := fun x y => if y = x + 1 ∧ x < k then c.limit else if x = y + 1 ∧ y < k then -c.pitch else M0 x y
theorem linkR_step (c : Chain) (k : Nat) (x y : Nat) : mset (mset (linkR c k) k (k + 1) c.limit) (k + 1) k (-c.pitch) x y = linkR c (k + 1) x y := by
  unfold mset linkR
  by_cases h1 : x = k + 1 ∧ y = k
  · rw [if_pos h1, if_neg (by omega), if_pos (by omega)]
  · rw [if_neg h1]
    by_cases h2 : x = k ∧ y = k + 1
    · rw [if_pos h2, if_pos (by omega)]
    · rw [if_neg h2]
      by_cases h3 : y = x + 1 ∧ x < k
      · rw [if_pos h3, if_pos (by omega)]
      · by_cases h4 : x = y + 1 ∧ y < k
        · rw [if_neg h3, if_pos h4, if_neg (by omega), if_pos (by omega)]
        · rw [if_neg h3, if_neg h4, if_neg (by omega), if_neg (by omega)]
/-- One span more. -/
def oneR (M : IM) (g : Gauge) : IM :=
  mset (mset M g.fr.toNat g.to.toNat (min (M g.fr.toNat g.to.toNat) g.hi)) g.to.toNat g.fr.toNat (min (mset M g.fr.toNat g.to.toNat (min (M g.fr.toNat g.to.toNat) g.hi) g.to.toNat g.fr.toNat) (-g.lo))
def gaugeR (l : List Gauge) (M : IM) : Nat → IM
  | 0 => M
  | k + 1 => oneR (gaugeR l M k) (l.getD k Gauge.zero)
def netR (c : Chain) (l : List Gauge) : IM := gaugeR l (linkR c c.links.toNat) l.length

/-- One end more is taken for the way. -/
def fwP (M : IM) (m : Nat) : IM := fun x y => min (M x y) (M x m + M m y)
def fstg (M : IM) (m p q : Nat) : IM := fun x y => if x < p ∨ (x = p ∧ y < q) then fwP M m x y else M x y
def fwTo (n : Nat) (M : IM) : Nat → Option IM
  | 0 => some M
  | k + 1 => match fwTo n M k with
    | none => none
    | some M' => if diagB n (fwP M' k) then some (fwP M' k) else none
def buildO (c : Chain) (l : List Gauge) : Option IM := fwTo c.n (netR c l) c.n

theorem fwTo_none {n : Nat} {M : IM} {k : Nat} (h : fwTo n M k = none) : ∀ m, k ≤ m → fwTo n M m = none := by
  intro m
  induction m with
  | zero => intro hm; have : k = 0 := by omega
            subst this; exact h
  | succ m ih =>
    intro hm
    rcases Nat.lt_or_ge m k with h1 | h1
    · have : k = m + 1 := by omega
      subst this; exact h
    · simp only [fwTo, ih h1]

theorem fstg_new {M : IM} {m : Nat} (hm : M m m = 0) (p q : Nat) : min (fstg M m p q p q) (fstg M m p q p m + fstg M m p q m q) = fwP M m p q := by
  have e1 : fstg M m p q p q = M p q := by unfold fstg; rw [if_neg (by omega)]
  have e2 : fstg M m p q p m = M p m := by
    unfold fstg fwP; split
    · rw [hm]; omega
    · rfl
  have e3 : fstg M m p q m q = M m q := by
    unfold fstg fwP; split
    · rw [hm]; omega
    · rfl
  rw [e1, e2, e3]; rfl
theorem fstg_step (M : IM) (m p q x y : Nat) : mset (fstg M m p q) p q (fwP M m p q) x y = fstg M m p (q + 1) x y := by
  unfold mset
  by_cases h : x = p ∧ y = q
  · rw [if_pos h]; obtain ⟨rfl, rfl⟩ := h; unfold fstg; rw [if_pos (by omega)]
  · rw [if_neg h]; unfold fstg
    by_cases h2 : x < p ∨ (x = p ∧ y < q)
    · rw [if_pos h2, if_pos (by omega)]
    · rw [if_neg h2, if_neg (by omega)]
theorem fstg_row (M : IM) (m n p x y : Nat) (hy : y < n) : fstg M m p n x y = fstg M m (p + 1) 0 x y := by
  unfold fstg
  by_cases h2 : x < p ∨ (x = p ∧ y < n)
  · rw [if_pos h2, if_pos (by omega)]
  · rw [if_neg h2, if_neg (by omega)]
theorem fstg_zero (M : IM) (m x y : Nat) : fstg M m 0 0 x y = M x y := by
  unfold fstg; rw [if_neg (by omega)]
theorem fstg_all (M : IM) (m n x y : Nat) (hx : x < n) : fstg M m n 0 x y = fwP M m x y := by
  unfold fstg; rw [if_pos (by omega)]

/-- The least that an entry can be, before end k is taken. -/
def pw : Nat → Int
  | 0 => 10000000
  | k + 1 => 2 * pw k
theorem pw_le : ∀ k, k ≤ 25 → 0 ≤ pw k ∧ pw k ≤ 335544320000000 := by
  have h0 : ∀ k, 0 ≤ pw k := by
    intro k; induction k with
    | zero => decide
    | succ k ih => unfold pw; omega
  have h1 : ∀ k d, pw k ≤ pw (k + d) := by
    intro k d; induction d with
    | zero => exact Int.le_refl _
    | succ d ih => have := h0 (k + d); show pw k ≤ 2 * pw (k + d); omega
  intro k hk
  refine ⟨h0 k, ?_⟩
  have h2 := h1 k (25 - k)
  rw [show k + (25 - k) = 25 by omega] at h2
  have h3 : pw 25 = 335544320000000 := by decide
  omega

/-- Before end k is taken: nothing at the diagonal, and entries that are not great. -/
structure CNet (n k : Nat) (M : IM) : Prop where
  diag : ∀ x, x < n → M x x = 0
  lo : ∀ x y, x < n → y < n → -(pw k) ≤ M x y
  top : ∀ x y, x < n → y < n → M x y ≤ wide

theorem CNet.fstg {n k m : Nat} {M : IM} (h : CNet n k M) (hm : m < n) (p q x y : Nat) (hx : x < n) (hy : y < n) : -(pw (k + 1)) ≤ fstg M m p q x y ∧ fstg M m p q x y ≤ wide := by
  have h1 := h.lo x y hx hy
  have h2 := h.lo x m hx hm
  have h3 := h.lo m y hm hy
  have h4 := h.top x y hx hy
  have h5 : pw (k + 1) = 2 * pw k := rfl
  have h6 := h.diag m hm
  have h7 := h.lo m m hm hm
  unfold Go.Proofs.Ytdepakimbagonaa.fstg fwP
  split <;> omega
theorem CNet.next {n k m : Nat} {M : IM} (h : CNet n k M) (hm : m < n) (hd : diagB n (fwP M m) = true) : CNet n (k + 1) (fwP M m) := by
  rw [diagB_iff] at hd
  refine ⟨fun x hx => ?_, fun x y hx hy => ?_, fun x y hx hy => ?_⟩
  · have h1 := hd x hx
    have h2 := h.diag x hx
    have h3 : fwP M m x x ≤ M x x := by unfold fwP; omega
    omega
  · have := h.fstg hm n 0 x y hx hy
    rw [fstg_all M m n x y hx] at this
    exact this.1
  · have := h.fstg hm n 0 x y hx hy
    rw [fstg_all M m n x y hx] at this
    exact this.2

/-- What the net says before any end is taken, as a property. -/
def under (n : Nat) (K E : IM) : Prop := ∀ x y, x < n → y < n → E x y ≤ K x y

theorem fw_law {n : Nat} {K : IM} (hK : CNet n 0 K) : ∀ k, k ≤ n →
    match fwTo n K k with
    | some M => CNet n k M ∧ under n K M ∧ (∀ E, Good n E → under n K E → under n M E) ∧ ∀ x y j, x < n → y < n → j < k → M x y ≤ M x j + M j y
    | none => ∀ E, Good n E → ¬ under n K E := by
  intro k
  induction k with
  | zero => intro _; exact ⟨hK, fun _ _ _ _ => Int.le_refl _, fun _ _ h => h, fun x y j _ _ h => by omega⟩
  | succ k ih =>
    intro hk
    have h := ih (by omega)
    simp only [fwTo]
    cases hq : fwTo n K k with
    | none => rw [hq] at h; exact h
    | some M =>
      rw [hq] at h
      obtain ⟨h1, h2, h3, h4⟩ := h
      have h5 : ∀ E, Good n E → under n K E → under n (fwP M k) E := by
        intro E hE hu x y hx hy
        have e1 := h3 E hE hu x y hx hy
        have e2 := h3 E hE hu x k hx (by omega)
        have e3 := h3 E hE hu k y (by omega) hy
        have e4 := hE.tri x k y hx (by omega) hy
        unfold fwP; omega
      simp only
      cases hd : diagB n (fwP M k) with
      | true =>
        simp only [if_true]
        refine ⟨h1.next (by omega) hd, fun x y hx hy => ?_, h5, fun x y j hx hy hj => ?_⟩
        · have := h2 x y hx hy
          unfold fwP; omega
        · have d := h1.diag k (by omega)
          by_cases hjk : j = k
          · subst hjk; unfold fwP; rw [d]; omega
          · have a1 := h4 x y j hx hy (by omega)
            have a2 := h4 k y j (by omega) hy (by omega)
            have a3 := h4 x k j hx (by omega) (by omega)
            have a4 := h4 k k j (by omega) (by omega) (by omega)
            unfold fwP
            omega
      | false =>
        simp only [Bool.false_eq_true, if_false]
        intro E hE hu
        have hf : ¬ ∀ x, x < n → 0 ≤ fwP M k x x := by
          rw [← diagB_iff, hd]; simp
        apply hf
        intro x hx
        have e1 := h5 E hE hu x x hx hx
        have e2 := hE.diag x hx
        omega

theorem fw_best {n : Nat} {K : IM} (hK : CNet n 0 K) : match fwTo n K n with
    | some M => Best n (under n K) M
    | none => ∀ E, Good n E → ¬ under n K E := by
  have h := fw_law hK n (Nat.le_refl _)
  cases hq : fwTo n K n with
  | none => rw [hq] at h; exact h
  | some M =>
    rw [hq] at h
    obtain ⟨h1, h2, h3, h4⟩ := h
    exact ⟨⟨h1.diag, fun x y z hx hy hz => h4 x z y hx hz hy, h1.top⟩, h2, fun E hE hu => h3 E hE hu⟩

/-! ## the net asks what the links and gauges ask -/
theorem linkR_under {c : Chain} {n : Nat} (hl : c.limit ≤ wide) (hp : 0 ≤ c.pitch) (E : IM) (hE : Good n E) : ∀ k, k < n → (under n (linkR c k) E ↔ satL c k E) := by
  intro k
  induction k with
  | zero =>
    intro _
    refine ⟨fun _ => trivial, fun _ x y hx hy => ?_⟩
    unfold linkR M0
    rw [if_neg (by omega), if_neg (by omega)]
    split
    · rename_i e; subst e; have := hE.diag x hx; omega
    · exact hE.top x y hx hy
  | succ k ih =>
    intro hk
    have h := ih (by omega)
    constructor
    · intro hu
      refine ⟨h.1 fun x y hx hy => ?_, ?_, ?_⟩
      · have h1 := hu x y hx hy
        have h2 := hE.top x y hx hy
        unfold linkR at h1 ⊢
        by_cases e1 : y = x + 1 ∧ x < k
        · rw [if_pos e1]; rw [if_pos (by omega)] at h1; exact h1
        · rw [if_neg e1]
          by_cases e2 : x = y + 1 ∧ y < k
          · rw [if_pos e2]; rw [if_neg (by omega), if_pos (by omega)] at h1; exact h1
          · rw [if_neg e2]
            unfold M0
            split
            · rename_i e; subst e; have := hE.diag x hx; omega
            · exact h2
      · have h1 := hu k (k + 1) (by omega) hk
        unfold linkR at h1; rw [if_pos (by omega)] at h1; exact h1
      · have h1 := hu (k + 1) k hk (by omega)
        unfold linkR at h1; rw [if_neg (by omega), if_pos (by omega)] at h1; exact h1
    · rintro ⟨h1, h2, h3⟩ x y hx hy
      have h4 := h.2 h1 x y hx hy
      rw [← linkR_step]
      unfold mset
      by_cases e1 : x = k + 1 ∧ y = k
      · rw [if_pos e1, e1.1, e1.2]; exact h3
      · rw [if_neg e1]
        by_cases e2 : x = k ∧ y = k + 1
        · rw [if_pos e2, e2.1, e2.2]; exact h2
        · rw [if_neg e2]; exact h4

theorem oneR_at {M : IM} {g : Gauge} (hne : g.fr.toNat ≠ g.to.toNat) (x y : Nat) : oneR M g x y = if x = g.to.toNat ∧ y = g.fr.toNat then min (M x y) (-g.lo) else if x = g.fr.toNat ∧ y = g.to.toNat then min (M x y) g.hi else M x y := by
  unfold oneR mset
  by_cases e1 : x = g.to.toNat ∧ y = g.fr.toNat
  · rw [if_pos e1, if_pos e1, if_neg (by omega), e1.1, e1.2]
  · rw [if_neg e1, if_neg e1]
    by_cases e2 : x = g.fr.toNat ∧ y = g.to.toNat
    · rw [if_pos e2, if_pos e2, e2.1, e2.2]
    · rw [if_neg e2, if_neg e2]
theorem oneR_under {n : Nat} {M E : IM} {g : Gauge} (hne : g.fr.toNat ≠ g.to.toNat) (hf : g.fr.toNat < n) (ht : g.to.toNat < n) : under n (oneR M g) E ↔ under n M E ∧ inSpan g.fr.toNat g.to.toNat g.lo g.hi E := by
  constructor
  · intro h
    refine ⟨fun x y hx hy => ?_, ?_, ?_⟩
    · have h1 := h x y hx hy
      rw [oneR_at hne] at h1
      split at h1
      · omega
      · split at h1 <;> omega
    · have h1 := h _ _ hf ht
      rw [oneR_at hne, if_neg (by omega), if_pos ⟨rfl, rfl⟩] at h1
      omega
    · have h1 := h _ _ ht hf
      rw [oneR_at hne, if_pos ⟨rfl, rfl⟩] at h1
      omega
  · rintro ⟨h, h1, h2⟩ x y hx hy
    have h3 := h x y hx hy
    rw [oneR_at hne]
    split
    · rename_i e; obtain ⟨rfl, rfl⟩ := e; omega
    · split
      · rename_i e; obtain ⟨rfl, rfl⟩ := e; omega
      · exact h3

def yes : Nat → Bool := fun _ => true
theorem gauge_ne {c : Chain} {l : List Gauge} (hg : l.all (gaugeOk c.links) = true) {k : Nat} (hk : k < l.length) : (l.getD k Gauge.zero).fr.toNat ≠ (l.getD k Gauge.zero).to.toNat := by
  have h := getD_ok hg hk
  unfold gaugeOk at h
  simp only [decide_eq_true_eq] at h
  omega
theorem gaugeR_under {c : Chain} {l : List Gauge} (hc : chainOk c = true) (hg : l.all (gaugeOk c.links) = true) (E : IM) (hE : Good c.n E) : ∀ k, k ≤ l.length → (under c.n (gaugeR l (linkR c c.links.toNat) k) E ↔ satG c l yes k E) := by
  unfold chainOk at hc
  simp only [decide_eq_true_eq] at hc
  intro k
  induction k with
  | zero => intro _; exact linkR_under (by unfold wide; omega) (by omega) E hE _ (by unfold Chain.n; omega)
  | succ k ih =>
    intro hk
    obtain ⟨g1, g2⟩ := gauge_in hg (show k < l.length by omega)
    show under c.n (oneR _ _) E ↔ _
    rw [oneR_under (gauge_ne hg (by omega)) g1 g2, ih (by omega)]
    show _ ↔ _ ∧ (yes k = true → _)
    simp [yes]

theorem linkR_net {c : Chain} (hc : chainOk c = true) (n k : Nat) : CNet n 0 (linkR c k) := by
  unfold chainOk at hc
  simp only [decide_eq_true_eq] at hc
  have h0 : pw 0 = 10000000 := rfl
  refine ⟨fun x hx => ?_, fun x y hx hy => ?_, fun x y hx hy => ?_⟩
  · unfold linkR M0; rw [if_neg (by omega), if_neg (by omega), if_pos rfl]
  · unfold linkR M0 wide; repeat' split
    all_goals omega
  · unfold linkR M0 wide; repeat' split
    all_goals omega
theorem oneR_net {n : Nat} {links : Int} {M : IM} {g : Gauge} (hg : gaugeOk links g = true) (h : CNet n 0 M) : CNet n 0 (oneR M g) := by
  unfold gaugeOk at hg
  simp only [decide_eq_true_eq] at hg
  have h0 : pw 0 = 10000000 := rfl
  have hne : g.fr.toNat ≠ g.to.toNat := by omega
  refine ⟨fun x hx => ?_, fun x y hx hy => ?_, fun x y hx hy => ?_⟩
  · rw [oneR_at hne, if_neg (by omega), if_neg (by omega)]; exact h.diag x hx
  · rw [oneR_at hne]; have := h.lo x y hx hy; repeat' split
    all_goals omega
  · rw [oneR_at hne]; have := h.top x y hx hy; repeat' split
    all_goals omega
theorem gaugeR_net {c : Chain} {l : List Gauge} (hc : chainOk c = true) (hg : l.all (gaugeOk c.links) = true) (n : Nat) : ∀ k, k ≤ l.length → CNet n 0 (gaugeR l (linkR c c.links.toNat) k) := by
  intro k
  induction k with
  | zero => intro _; exact linkR_net hc n _
  | succ k ih => intro hk; exact oneR_net (getD_ok hg (by omega)) (ih (by omega))

/-- The net and the web are the same. -/
theorem build_law {c : Chain} {l : List Gauge} (hc : chainOk c = true) (hg : l.all (gaugeOk c.links) = true) : match weaveW c l yes with
    | some M => ∃ F, buildO c l = some F ∧ ∀ x y, x < c.n → y < c.n → F x y = M x y
    | none => buildO c l = none := by
  have h1 := weave_best (p := yes) hc hg
  have h2 := fw_best (gaugeR_net hc hg c.n l.length (Nat.le_refl _))
  have h3 := fun E hE => gaugeR_under hc hg E hE l.length (Nat.le_refl _)
  unfold buildO netR
  cases hq : weaveW c l yes with
  | none =>
    rw [hq] at h1
    cases hr : fwTo c.n (gaugeR l (linkR c c.links.toNat) l.length) c.n with
    | none => rfl
    | some F =>
      rw [hr] at h2
      exact absurd ((h3 F h2.good).1 h2.sat) (h1 F h2.good)
  | some M =>
    rw [hq] at h1
    cases hr : fwTo c.n (gaugeR l (linkR c c.links.toNat) l.length) c.n with
    | none =>
      rw [hr] at h2
      exact absurd ((h3 M h1.good).2 h1.sat) (h2 M h1.good)
    | some F =>
      rw [hr] at h2
      refine ⟨F, rfl, fun x y hx hy => ?_⟩
      have e1 := h1.best F h2.good ((h3 F h2.good).1 h2.sat) x y hx hy
      have e2 := h2.best M h1.good ((h3 M h1.good).2 h1.sat) x y hx hy
      omega
end Go.Proofs.Ytdepakimbagonaa

namespace Go.Proofs.Ytdepakimbagonaa
set_option linter.unusedVariables false
set_option linter.unusedSimpArgs false

theorem gto_app {n : Nat} {l : List Gauge} {g : Gauge} {p : Nat → Bool} {M : IM} : ∀ k, k ≤ l.length → gto n (l ++ [g]) p M k = gto n l p M k := by
  intro k
  induction k with
  | zero => intro _; rfl
  | succ k ih =>
    intro hk
    have e : (l ++ [g]).getD k Gauge.zero = l.getD k Gauge.zero := by
      rw [List.getD_eq_getElem?_getD, List.getD_eq_getElem?_getD, List.getElem?_append_left (by omega)]
    simp only [gto, ih (by omega), e]

theorem weave_app {c : Chain} {l : List Gauge} {g : Gauge} {M : IM} (h : weaveW c l yes = some M) : weaveW c (l ++ [g]) yes = gOne c.n M g := by
  unfold weaveW at *
  have e : (l ++ [g]).getD l.length Gauge.zero = g := by
    rw [List.getD_eq_getElem?_getD, List.getElem?_append_right (Nat.le_refl _)]; simp
  rw [List.length_append, show [g].length = 1 from rfl]
  simp only [gto, gto_app l.length (Nat.le_refl _), h, e]
  simp [yes]

theorem satL_at {c : Chain} {M : IM} : ∀ k, satL c k M → ∀ j, j < k → inSpan j (j + 1) c.pitch c.limit M := by
  intro k
  induction k with
  | zero => intro _ j hj; omega
  | succ k ih =>
    intro ⟨h1, h2⟩ j hj
    by_cases e : j = k
    · subst e; exact h2
    · exact ih h1 j (by omega)
theorem satG_links {c : Chain} {l : List Gauge} {p : Nat → Bool} {M : IM} : ∀ k, satG c l p k M → satL c c.links.toNat M := by
  intro k
  induction k with
  | zero => intro h; exact h
  | succ k ih => intro ⟨h1, _⟩; exact ih h1
theorem satG_at {c : Chain} {l : List Gauge} {p : Nat → Bool} {M : IM} : ∀ k, satG c l p k M → ∀ j, j < k → p j = true → inSpan (l.getD j Gauge.zero).fr.toNat (l.getD j Gauge.zero).to.toNat (l.getD j Gauge.zero).lo (l.getD j Gauge.zero).hi M := by
  intro k
  induction k with
  | zero => intro _ j hj; omega
  | succ k ih =>
    intro ⟨h1, h2⟩ j hj
    by_cases e : j = k
    · subst e; exact h2
    · exact ih h1 j (by omega)

theorem web_best {c : Chain} {l : List Gauge} {p : Nat → Bool} {M : IM} (hc : chainOk c = true) (hg : l.all (gaugeOk c.links) = true) (h : weaveW c l p = some M) : Best c.n (satG c l p l.length) M := by
  have := weave_best (p := p) hc hg
  rw [h] at this
  exact this

/-- A run's length, from its links alone. -/
theorem run_bd {c : Chain} {n m : Nat} {M : IM} (hG : Good n M) (hm : m < n) (hs : satL c m M) : ∀ d i, i + d ≤ m → M i (i + d) ≤ d * c.limit ∧ M (i + d) i ≤ -(d * c.pitch) := by
  intro d
  induction d with
  | zero =>
    intro i hi
    have := hG.diag i (by omega)
    simp only [Nat.add_zero]
    omega
  | succ d ih =>
    intro i hi
    obtain ⟨h1, h2⟩ := ih i (by omega)
    obtain ⟨h3, h4⟩ := satL_at m hs (i + d) (by omega)
    have t1 := hG.tri i (i + d) (i + d + 1) (by omega) (by omega) (by omega)
    have t2 := hG.tri (i + d + 1) (i + d) i (by omega) (by omega) (by omega)
    rw [← Nat.add_assoc]
    have e1 : ((d + 1 : Nat) : Int) * c.limit = d * c.limit + c.limit := by rw [Int.natCast_add, Int.add_mul]; simp
    have e2 : ((d + 1 : Nat) : Int) * c.pitch = d * c.pitch + c.pitch := by rw [Int.natCast_add, Int.add_mul]; simp
    rw [e1, e2]
    omega

theorem tight_le (M : IM) (i j : Nat) (lo hi : Int) (x y : Nat) : tightM M i j lo hi x y ≤ M x y := by
  unfold tightM
  have h1 := arc_le (arc M i j hi) j i (-lo) x y
  have h2 := arc_le M i j hi x y
  omega
theorem witS_le (M : IM) (a b : Nat) (len : Int) (x y : Nat) : witS M a b len x y ≤ M x y := by
  unfold witS
  split
  · exact tight_le _ _ _ _ _ _ _
  · exact Int.le_refl _
theorem witM_le (M : IM) (k x y : Nat) : witM M k x y ≤ M x y := by
  induction k with
  | zero => exact Int.le_refl _
  | succ k ih => have := tight_le (witM M k) k (k + 1) (-(witM M k (k + 1) k)) (-(witM M k (k + 1) k)) x y; unfold witM; omega

def pinG (j : Nat) (v : Int) : Gauge := ⟨j, (j : Int) + 1, v, v⟩
def more0 (l : List Gauge) (a b : Nat) (len : Int) : List Gauge := if a < b then l ++ [⟨a, b, len, len⟩] else l
def moreK (l : List Gauge) (f : Nat → Int) (k : Nat) : List Gauge := l ++ (List.range k).map fun j => pinG j (f j)
theorem moreK_succ (l : List Gauge) (f : Nat → Int) (k : Nat) : moreK l f (k + 1) = moreK l f k ++ [pinG k (f k)] := by
  unfold moreK
  rw [List.range_succ, List.map_append, List.append_assoc]
  rfl

theorem gOne_pin {n : Nat} {M : IM} {g : Gauge} {v : Int} (hG : Good n M) (h1 : g.lo = v) (h2 : g.hi = v) (hf : g.fr.toNat < n) (ht : g.to.toNat < n) (h3 : -(M g.to.toNat g.fr.toNat) ≤ v) (h4 : v ≤ M g.fr.toNat g.to.toNat) :
    gOne n M g = some (tightM M g.fr.toNat g.to.toNat v v) := by
  unfold gOne
  rw [h1, h2]
  have hp := (tight_pin hG hf ht h3 h4).1
  rw [if_pos]
  rw [diagB_iff]
  intro k hk
  have := hp.diag k hk
  omega

theorem wit_more {c : Chain} {l : List Gauge} {M : IM} (hc : chainOk c = true) (hg : l.all (gaugeOk c.links) = true) (h : weaveW c l yes = some M) {a b : Nat} {len : Int} (hab : a ≤ b) (hb : b ≤ c.links.toNat) (h1 : -(M b a) ≤ len) (h2 : len ≤ M a b) :
    ∀ k, k ≤ c.links.toNat → (moreK (more0 l a b len) (witN (witS M a b len)) k).all (gaugeOk c.links) = true ∧ weaveW c (moreK (more0 l a b len) (witN (witS M a b len)) k) yes = some (witM (witS M a b len) k) := by
  have hB := web_best hc hg h
  have hG := hB.good
  have hs := satG_links _ hB.sat
  have hc' := hc
  unfold chainOk at hc'
  simp only [decide_eq_true_eq] at hc'
  have hn : c.n = c.links.toNat + 1 := rfl
  have hS := witS_good (len := len) hG (show a < c.n by omega) (show b < c.n by omega) h1 h2
  intro k
  induction k with
  | zero =>
    intro _
    have e : moreK (more0 l a b len) (witN (witS M a b len)) 0 = more0 l a b len := by unfold moreK; simp
    rw [e]
    unfold more0 witM witS
    by_cases hlt : a < b
    · rw [if_pos hlt, if_pos hlt]
      have hr := run_bd hG (show c.links.toNat < c.n by omega) hs (b - a) a (by omega)
      rw [show a + (b - a) = b by omega] at hr
      have e1 : ((b - a : Nat) : Int) * c.limit ≤ 24 * 100000 := Int.mul_le_mul (by omega) (by omega) (by omega) (by omega)
      have e2 := Int.mul_nonneg (show (0 : Int) ≤ ((b - a : Nat) : Int) by omega) (show 0 ≤ c.pitch by omega)
      constructor
      · rw [List.all_append, hg]
        simp only [List.all_cons, List.all_nil, Bool.true_and, Bool.and_true]
        unfold gaugeOk
        simp only [decide_eq_true_eq]
        omega
      · rw [weave_app h]
        exact gOne_pin (g := ⟨a, b, len, len⟩) hG rfl rfl (show a < c.n by omega) (show b < c.n by omega) h1 h2
    · rw [if_neg hlt, if_neg hlt]
      exact ⟨hg, h⟩
  | succ k ih =>
    intro hk
    obtain ⟨g1, g2⟩ := ih (by omega)
    have hk' := witM_good hS k (by omega)
    have t1 := hk'.tri k (k + 1) k (by omega) (by omega) (by omega)
    have t2 := hk'.diag k (by omega)
    have b1 := witM_le (witS M a b len) k (k + 1) k
    have b2 := witM_le (witS M a b len) k k (k + 1)
    have b3 := witS_le M a b len (k + 1) k
    have b4 := witS_le M a b len k (k + 1)
    obtain ⟨s1, s2⟩ := satL_at _ hs k (by omega)
    have s3 : witN (witS M a b len) k = -(witM (witS M a b len) k (k + 1) k) := rfl
    have s4 : 0 ≤ witN (witS M a b len) k ∧ witN (witS M a b len) k ≤ c.limit := by
      rw [s3]
      have := hk'.tri (k + 1) k (k + 1) (by omega) (by omega) (by omega)
      have := hk'.diag (k + 1) (by omega)
      omega
    rw [moreK_succ]
    constructor
    · rw [List.all_append, g1]
      simp only [List.all_cons, List.all_nil, Bool.true_and, Bool.and_true]
      unfold gaugeOk pinG
      simp only [decide_eq_true_eq]
      omega
    · rw [weave_app g2]
      have h5 := gOne_pin (g := pinG k (witN (witS M a b len) k)) (v := witN (witS M a b len) k) hk' rfl rfl (show k < c.n by omega) (show ((k : Int) + 1).toNat < c.n by omega)
        (show -(witM (witS M a b len) k (k + 1) k) ≤ _ by omega) (show _ ≤ witM (witS M a b len) k k (k + 1) by omega)
      rw [h5]
      rfl
end Go.Proofs.Ytdepakimbagonaa

namespace Go.Proofs.Ytdepakimbagonaa
set_option linter.unusedVariables false
set_option linter.unusedSimpArgs false
open Go.RowKit

structure Use where
  day : Int
  turns : Int
  cls : Int
  meas : Bool
  lo : Int
  hi : Int
structure Part where
  rates : List (Int × Int)
  worn : Int
  turns : Int
  age : Int
def Use.zero : Use := ⟨0, 0, 0, false, 0, 0⟩
def Use.cell (u : Use) : Nat → Value
  | 0 => .int .i64 u.day
  | 1 => .int .i64 u.turns
  | 2 => .int .i64 u.cls
  | 3 => .bool u.meas
  | 4 => .int .i64 u.lo
  | _ => .int .i64 u.hi
def ucell (l : List Use) (k j : Nat) : Value := (l.getD k Use.zero).cell j
def scellOf (s : Int × Int) : Nat → Value
  | 0 => .int .i64 s.1
  | _ => .int .i64 s.2
/-- The cells of spans. -/
def scell (l : List (Int × Int)) (k j : Nat) : Value := scellOf (l.getD k (0, 0)) j
def fcell (f : Nat → Int × Int) (k j : Nat) : Value := scellOf (f k) j

def partHdr (p : Part) : Bool := decide (1 ≤ p.rates.length ∧ p.rates.length ≤ 4 ∧ 0 ≤ p.worn ∧ p.worn ≤ 1000 ∧ 0 ≤ p.turns ∧ p.turns ≤ 1000000 ∧ 0 ≤ p.age ∧ p.age ≤ 100000)
def rateOk (r : Int × Int) : Bool := decide (0 ≤ r.1 ∧ r.1 ≤ r.2 ∧ r.2 ≤ 1000000)
def useOk (n : Nat) (d : Int) (u : Use) : Bool := decide ((d ≤ u.day ∧ u.day ≤ 100000 ∧ 0 ≤ u.turns ∧ u.turns ≤ 1000000 ∧ 0 ≤ u.cls ∧ u.cls ≤ (n : Int) - 1) ∧ 0 ≤ u.lo ∧ u.lo ≤ u.hi ∧ u.hi ≤ 2000000000 ∧ (u.meas = false → u.lo = 0 ∧ u.hi = 0))
def prevD (l : List Use) : Nat → Int
  | 0 => 0
  | k + 1 => (l.getD k Use.zero).day
def usesTo (n : Nat) (l : List Use) (k : Nat) : Bool := (List.range k).all fun i => useOk n (prevD l i) (l.getD i Use.zero)
def checkP (p : Part) (l : List Use) : Int :=
  if partHdr p then (if p.rates.all rateOk then (if l.length ≤ 40 then (if usesTo p.rates.length l l.length then 0 else 23) else 23) else 22) else 22

structure PartOk (p : Part) (l : List Use) : Prop where
  hdr : partHdr p = true
  rates : p.rates.all rateOk = true
  len : l.length ≤ 40
  uses : usesTo p.rates.length l l.length = true

theorem checkP_ok {p : Part} {l : List Use} (h : checkP p l = 0) : PartOk p l := by
  unfold checkP at h
  split at h
  · split at h
    · split at h
      · split at h
        · exact ⟨by assumption, by assumption, by assumption, by assumption⟩
        · cases h
      · cases h
    · cases h
  · cases h
theorem PartOk.use {p : Part} {l : List Use} (h : PartOk p l) {k : Nat} (hk : k < l.length) : useOk p.rates.length (prevD l k) (l.getD k Use.zero) = true := by
  have := h.uses
  unfold usesTo at this
  exact List.all_eq_true.1 this k (List.mem_range.2 hk)
theorem PartOk.rate {p : Part} {l : List Use} (h : PartOk p l) {k : Nat} (hk : k < p.rates.length) : rateOk (p.rates.getD k (0, 0)) = true := by
  rw [List.getD_eq_getElem?_getD, List.getElem?_eq_getElem hk]
  exact List.all_eq_true.1 h.rates _ (List.getElem_mem hk)

def grownS (p : Part) (u : Use) : Int × Int := (u.turns * (p.rates.getD u.cls.toNat (0, 0)).1, u.turns * (p.rates.getD u.cls.toNat (0, 0)).2)
def meetS (a b : Int × Int) : Int × Int := (max a.1 b.1, min a.2 b.2)
def addS (a b : Int × Int) : Int × Int := (a.1 + b.1, a.2 + b.2)
/-- The wear behind use k - 1 by what was before. -/
def fwd (p : Part) (l : List Use) : Nat → Int × Int
  | 0 => (0, 0)
  | k + 1 => if (l.getD k Use.zero).meas then meetS (addS (fwd p l k) (grownS p (l.getD k Use.zero))) ((l.getD k Use.zero).lo, (l.getD k Use.zero).hi) else addS (fwd p l k) (grownS p (l.getD k Use.zero))
def fits (p : Part) (l : List Use) (k : Nat) : Prop := (l.getD k Use.zero).meas = true → (fwd p l (k + 1)).1 ≤ (fwd p l (k + 1)).2
/-- n is the first use by which there is no history, or the number of uses. -/
structure IsAt (p : Part) (l : List Use) (n : Nat) : Prop where
  le : n ≤ l.length
  good : ∀ k, k < n → fits p l k
  bad : n < l.length → ¬ fits p l n
theorem IsAt.same {p : Part} {l : List Use} {n m : Nat} (h : IsAt p l n) (h' : IsAt p l m) : n = m := by
  rcases Nat.lt_trichotomy n m with h1 | h1 | h1
  · exact absurd (h'.good n h1) (h.bad (by have := h'.le; omega))
  · exact h1
  · exact absurd (h.good m h1) (h'.bad (by have := h.le; omega))
def bkw (p : Part) (l : List Use) : Nat → Int × Int
  | 0 => fwd p l l.length
  | d + 1 => meetS (fwd p l (l.length - 1 - d)) ((bkw p l d).1 - (grownS p (l.getD (l.length - 1 - d) Use.zero)).2, (bkw p l d).2 - (grownS p (l.getD (l.length - 1 - d) Use.zero)).1)
/-- The wear behind use k by all uses. -/
def wearAt (p : Part) (l : List Use) (k : Nat) : Int × Int := bkw p l (l.length - 1 - k)

theorem grown_bd {p : Part} {l : List Use} (h : PartOk p l) {k : Nat} (hk : k < l.length) : 0 ≤ (grownS p (l.getD k Use.zero)).1 ∧ (grownS p (l.getD k Use.zero)).1 ≤ 1000000000000 ∧ 0 ≤ (grownS p (l.getD k Use.zero)).2 ∧ (grownS p (l.getD k Use.zero)).2 ≤ 1000000000000 := by
  have hu := h.use hk
  unfold useOk at hu
  simp only [decide_eq_true_eq] at hu
  have hr := h.rate (k := (l.getD k Use.zero).cls.toNat) (by omega)
  unfold rateOk at hr
  simp only [decide_eq_true_eq] at hr
  unfold grownS
  refine ⟨Int.mul_nonneg (by omega) (by omega), ?_, Int.mul_nonneg (by omega) (by omega), ?_⟩
  · exact Int.le_trans (Int.mul_le_mul (c := 1000000) (d := 1000000) (by omega) (by omega) (by omega) (by omega)) (by decide)
  · exact Int.le_trans (Int.mul_le_mul (c := 1000000) (d := 1000000) (by omega) (by omega) (by omega) (by omega)) (by decide)
theorem fwd_bd {p : Part} {l : List Use} (h : PartOk p l) : ∀ k, k ≤ l.length → 0 ≤ (fwd p l k).1 ∧ (fwd p l k).1 ≤ (k : Int) * 1000000000000 ∧ 0 ≤ (fwd p l k).2 ∧ (fwd p l k).2 ≤ (k : Int) * 1000000000000 := by
  intro k
  induction k with
  | zero => intro _; simp [fwd]
  | succ k ih =>
    intro hk
    have h1 := ih (by omega)
    have h2 := grown_bd h (show k < l.length by omega)
    have hu := h.use (show k < l.length by omega)
    unfold useOk at hu
    simp only [decide_eq_true_eq] at hu
    unfold fwd addS meetS
    split <;> (dsimp only; omega)
theorem bkw_bd {p : Part} {l : List Use} (h : PartOk p l) : ∀ d, d < l.length → -((d : Int) * 1000000000000) ≤ (bkw p l d).1 ∧ (bkw p l d).1 ≤ 40000000000000 ∧ -((d : Int) * 1000000000000) ≤ (bkw p l d).2 ∧ (bkw p l d).2 ≤ 40000000000000 := by
  intro d
  have hlen := h.len
  induction d with
  | zero => intro hd; have := fwd_bd h l.length (Nat.le_refl _); unfold bkw; omega
  | succ d ih =>
    intro hd
    have h1 := ih (by omega)
    have h2 := grown_bd h (show l.length - 1 - d < l.length by omega)
    have h3 := fwd_bd h (l.length - 1 - d) (by omega)
    unfold bkw meetS
    dsimp only
    omega

def sumT (l : List Use) : Nat → Int
  | 0 => 0
  | k + 1 => sumT l k + (l.getD k Use.zero).turns
theorem sumT_bd {p : Part} {l : List Use} (h : PartOk p l) : ∀ k, k ≤ l.length → 0 ≤ sumT l k ∧ sumT l k ≤ (k : Int) * 1000000 := by
  intro k
  induction k with
  | zero => intro _; simp [sumT]
  | succ k ih =>
    intro hk
    have h1 := ih (by omega)
    have hu := h.use (show k < l.length by omega)
    unfold useOk at hu
    simp only [decide_eq_true_eq] at hu
    unfold sumT
    omega
/-- How many turns more. -/
def dueTurns (p : Part) (turns wear : Int) (r : Int) : Int := if 0 < r then min (min 1000000 (p.turns - turns)) ((p.worn * 1000000 - wear) / r) else min 1000000 (p.turns - turns)
def wearEnd (p : Part) (l : List Use) : Int := if l.length = 0 then 0 else (fwd p l l.length).2
open Classical in
noncomputable def dueO (p : Part) (l : List Use) (cls day : Int) : Int × Int :=
  if checkP p l ≠ 0 then (0, checkP p l)
  else if ¬ ((0 ≤ cls ∧ cls ≤ (p.rates.length : Int) - 1) ∧ prevD l l.length ≤ day ∧ day ≤ 100000) then (0, 1)
  else if ¬ IsAt p l l.length then (0, 3)
  else if p.age < day ∨ p.turns < sumT l l.length ∨ p.worn * 1000000 < wearEnd p l then (0, 3)
  else (dueTurns p (sumT l l.length) (wearEnd p l) (p.rates.getD cls.toNat (0, 0)).2, 0)
end Go.Proofs.Ytdepakimbagonaa

namespace Go.Proofs.Ytdepakimbagonaa
set_option linter.unusedVariables false
set_option linter.unusedSimpArgs false
open Go.RowKit
section
variable {P : Program} {ops : Array Oper} {w w0 : World} {F0 F : Nat → Prop} {R : List Mem} {Q : Exit → Act → World → Prop} {rest : List Oper} {N : FN} {L : List (Nat × Value)} {a : Act} {ty : TypeId} {pos : String} {af : Array Edge}
theorem boxM.same {i b : Nat} {t : TypeId} {cs cs' : List Value} (S : St w0 F0 R w) (hi : R[i]? = some (boxM b t cs)) (h : cs = cs') : St w0 F0 (R.set i (boxM b t cs')) w := by
  subst h; exact S.imp hi (fun h => h) (fun _ h => h)
theorem own_rd2 {i e n c k : Nat} {A : Option Addr} {f : Nat → Int × Int} {s : Int × Int} (S : St w0 F0 R w) (hi : R[i]? = some (ownM e 2 A n c (fcell f))) (hk : k < n) (hs : f k = s) :
    ∀ (j : Nat) v, [Value.int .i64 s.1, Value.int .i64 s.2][j]? = some v → w.cell? ⟨(adr A).block, (adr A).off + k * 2 + 0 + j, none⟩ = some v := by
  intro j v hv
  subst hs
  have h0 := ownM.rd S hi hk (j := j)
  have hj : j < 2 := (List.getElem?_eq_some_iff.1 hv).1
  have h1 := h0 hj
  have : j = 0 ∨ j = 1 := by omega
  rcases this with rfl | rfl <;> (simp at hv; subst hv; exact h1)
theorem list_store_own2 {t e i kk n c : Nat} {A : Option Addr} {f : Nat → Int × Int} {x y : Operand} {v1 v2 : Int} (H : Fr N L a) (S : St w0 F0 R w) (hi : R[i]? = some (ownM e 2 A n c (fcell f)))
    (hx : ev L x = some (.pointer (some (pt A 2 kk 0)))) (hy : ev L y = some (.agg [.int .i64 v1, .int .i64 v2].toArray)) (hk : kk < n) (hs : Sz P t 2)
    (k : ∀ w' a', St w0 F0 (R.set i (ownM e 2 A n c (fcell fun q => if q = kk then (v1, v2) else f q))) w' → Fr N L a' → wpList P ops Q rest a' w') :
    wpList P ops Q (⟨none, .store t x y, ty, pos, af, none⟩ :: rest) a w := by
  refine wpList_plain rfl fun K hK => ?_
  unfold Oper.wp
  rcases S.holds hi with ⟨_, h, _⟩ | ⟨b, cs, rfl, hb, hnc, hcm, hsz, hc⟩
  · omega
  have hlt : kk * 2 + 1 < cs.size := by omega
  have hp : pt (some ⟨b, 0, none⟩) 2 kk 0 = ⟨b, kk * 2, none⟩ := by simp [pt, adr]
  rw [hp] at hx
  have hr := run_storeVar (P := P) (w := w) (t := t) (b := b) (o := kk * 2) (v := .agg [.int .i64 v1, .int .i64 v2].toArray) (vs := [.int .i64 v1, .int .i64 v2]) (by simpa using hs) rfl hb (by simp; omega) (fun u hu => by
    simp only [List.mem_cons, List.not_mem_nil, or_false] at hu
    rcases hu with rfl | rfl <;> rfl)
  have e1 : (execOp a.eval ⟨none, .store t x y, ty, pos, af, none⟩).run P w = .ok .skip (w.setRow b (splice cs.toList (kk * 2) [.int .i64 v1, .int .i64 v2]).toArray) := by
    simp only [execOp, H.eval hx, H.eval hy]
    simp only [Sem.run_bind, hr]
    rfl
  rw [e1]
  refine hK _ _ (k _ _ (S.updSame hi ((setRow_keeps w b _).mono ?_) ?_ (fun _ h => h)) (H.put_none _))
  · rintro q rfl; exact ⟨_, rfl, rfl⟩
  · refine .inr ⟨b, _, rfl, setRow_heap w b _ _ e (0, 0) hb, hnc, hcm, ?_, ?_⟩
    · rw [List.size_toArray, splice_length _ _ _ (by simp; omega)]; simpa using hsz
    · intro k' j' hk' hj'
      rw [List.getElem?_toArray, splice_eq _ _ _ (by simp; omega)]
      have hj2 : j' = 0 ∨ j' = 1 := by omega
      by_cases hh : k' = kk
      · subst hh
        rw [List.append_assoc, List.getElem?_append_right (by simp; omega)]
        simp only [List.length_take, Array.length_toList, Nat.min_eq_left (show k' * 2 ≤ cs.size by omega)]
        rcases hj2 with rfl | rfl <;> simp [fcell, scellOf]
      · have hcell := hc k' j' hk' hj'
        have : fcell (fun q => if q = kk then (v1, v2) else f q) k' j' = fcell f k' j' := by simp [fcell, hh]
        rw [this, ← hcell]
        rcases Nat.lt_or_ge (k' * 2 + j') (kk * 2) with h | h
        · rw [List.append_assoc, List.getElem?_append_left (by simp; omega), List.getElem?_take_of_lt h]; simp
        · have h' : kk * 2 + 2 ≤ k' * 2 + j' := by omega
          rw [List.getElem?_append_right (by simp; omega), List.getElem?_drop]
          simp only [List.length_append, List.length_take, List.length_cons, List.length_nil, Array.length_toList]
          rw [Nat.min_eq_left (by omega)]
          rw [show kk * 2 + (0 + 1 + 1) + (k' * 2 + j' - (kk * 2 + (0 + 1 + 1))) = k' * 2 + j' by omega]
          simp
end

theorem fwd_meas {p : Part} {l : List Use} {k : Nat} (h : (l.getD k Use.zero).meas = true) : fwd p l (k + 1) = meetS (addS (fwd p l k) (grownS p (l.getD k Use.zero))) ((l.getD k Use.zero).lo, (l.getD k Use.zero).hi) := by rw [fwd, if_pos h]
theorem fwd_not {p : Part} {l : List Use} {k : Nat} (h : (l.getD k Use.zero).meas = false) : fwd p l (k + 1) = addS (fwd p l k) (grownS p (l.getD k Use.zero)) := by rw [fwd, if_neg (by rw [h]; simp)]
theorem fits_not {p : Part} {l : List Use} {k : Nat} (h : (l.getD k Use.zero).meas = false) : fits p l k := fun h' => by rw [h] at h'; cases h'
theorem wearAt_bd {p : Part} {l : List Use} (h : PartOk p l) {k : Nat} (hk : k < l.length) : -40000000000000 ≤ (wearAt p l k).1 ∧ (wearAt p l k).1 ≤ 40000000000000 ∧ -40000000000000 ≤ (wearAt p l k).2 ∧ (wearAt p l k).2 ≤ 40000000000000 := by
  have := bkw_bd h (l.length - 1 - k) (by omega)
  have := h.len
  unfold wearAt
  omega
theorem wearAt_last {p : Part} {l : List Use} {k : Nat} (hk : k + 1 = l.length) : wearAt p l k = fwd p l l.length := by
  unfold wearAt; rw [show l.length - 1 - k = 0 by omega]; rfl
theorem wearAt_step {p : Part} {l : List Use} {k : Nat} (hk : k + 1 < l.length) : wearAt p l k = meetS (fwd p l (k + 1)) ((wearAt p l (k + 1)).1 - (grownS p (l.getD (k + 1) Use.zero)).2, (wearAt p l (k + 1)).2 - (grownS p (l.getD (k + 1) Use.zero)).1) := by
  unfold wearAt
  rw [show l.length - 1 - k = (l.length - 1 - (k + 1)) + 1 by omega]
  rw [bkw]
  rw [show l.length - 1 - (l.length - 1 - (k + 1)) = k + 1 by omega]
end Go.Proofs.Ytdepakimbagonaa
