/- The data of layer 2, and how they lie in memory. Layer 2, plain: how far the ends of a chain can lie apart. Layer 2, plain: one end after the other is fixed. Layer 2, plain: the document's net, and that it is the web. Layer 2, plain: what the spans of a web are, and the gauges that a witness adds. Parts and uses: the data, and what the program computes of them. Stores of whole structs into owned slices; boxes said otherwise. -/
import Derived.Test.YtdepakimbagonaaE2
namespace Go.Proofs.Ytdepakimbagonaa
set_option linter.unusedVariables false
set_option linter.unusedSimpArgs false
open Go.RowKit

structure Chain where
  links : Int
  pitch : Int
  limit : Int
structure Gauge where
  fr : Int
  to : Int
  lo : Int
  hi : Int

def Gauge.zero : Gauge := ⟨0, 0, 0, 0⟩
def Gauge.cell (g : Gauge) : Nat → Value
  | 0 => .int .i64 g.fr
  | 1 => .int .i64 g.to
  | 2 => .int .i64 g.lo
  | _ => .int .i64 g.hi
def gcell (l : List Gauge) (k j : Nat) : Value := (l.getD k Gauge.zero).cell j
abbrev Chain.val (c : Chain) : Value := .agg [.int .i64 c.links, .int .i64 c.pitch, .int .i64 c.limit].toArray

def chainOk (c : Chain) : Bool := decide (1 ≤ c.links ∧ c.links ≤ 24 ∧ 1 ≤ c.pitch ∧ c.pitch ≤ c.limit ∧ c.limit ≤ 100000)
def gaugeOk (links : Int) (g : Gauge) : Bool := decide (0 ≤ g.fr ∧ g.fr < g.to ∧ g.to ≤ links ∧ 0 ≤ g.lo ∧ g.lo ≤ g.hi ∧ g.hi ≤ 10000000)
def checkE (c : Chain) (l : List Gauge) : Int :=
  if chainOk c then (if l.length ≤ 40 then (if l.all (gaugeOk c.links) then 0 else 21) else 2) else 20

theorem all_take {α : Type} {l : List α} {p : α → Bool} {k : Nat} {d : α} (hk : k < l.length) (h : (l.take k).all p = true) (hp : p (l.getD k d) = true) : (l.take (k + 1)).all p = true := by
  rw [List.take_succ_eq_append_getElem hk, List.all_append, h]
  simp only [List.getD_eq_getElem?_getD, List.getElem?_eq_getElem hk, Option.getD_some] at hp
  simp [hp]
theorem all_false {α : Type} {l : List α} {p : α → Bool} {k : Nat} {d : α} (hk : k < l.length) (hp : p (l.getD k d) = false) : l.all p = false := by
  simp only [List.getD_eq_getElem?_getD, List.getElem?_eq_getElem hk, Option.getD_some] at hp
  rw [← Bool.not_eq_true, List.all_eq_true]
  intro h
  have := h _ (List.getElem_mem hk)
  rw [hp] at this
  cases this
end Go.Proofs.Ytdepakimbagonaa

namespace Go.Proofs.Ytdepakimbagonaa
set_option linter.unusedVariables false
set_option linter.unusedSimpArgs false

abbrev IM := Nat → Nat → Int

/-! ## one arc more -/
section
variable (M : IM) (a b : Nat) (far : Int)
def vba : Int := min (M b a) (M b a + far + M b a)
def vb (y : Nat) : Int := min (M b y) ((if a < y then vba M a b far else M b a) + far + M b y)
def vxa (x : Nat) : Int := min (M x a) (M x a + far + (if b < x then vb M a b far a else M b a))
/-- What the loop over all pairs of ends leaves, in place. -/
def rel : IM := fun x y => min (M x y) ((if a < y then vxa M a b far x else M x a) + far + (if b < x then vb M a b far y else M b y))
end

/-- The arc is added, if it says more than what is known. -/
def arc (M : IM) (a b : Nat) (far : Int) : IM := if M a b ≤ far then M else rel M a b far
def tightM (M : IM) (i j : Nat) (lo hi : Int) : IM := arc (arc M i j hi) j i (-lo)
def diagB (n : Nat) (M : IM) : Bool := (List.range n).all fun k => decide (0 ≤ M k k)
/-! ## matrices that are closed -/
def wide : Int := 1099511627776
structure Good (n : Nat) (M : IM) : Prop where
  diag : ∀ x, x < n → M x x = 0
  tri : ∀ x y z, x < n → y < n → z < n → M x z ≤ M x y + M y z
  top : ∀ x y, x < n → y < n → M x y ≤ wide

theorem Good.low {n : Nat} {M : IM} (h : Good n M) {x y : Nat} (hx : x < n) (hy : y < n) : -wide ≤ M x y := by
  have h1 := h.tri x y x hx hy hx
  have h2 := h.diag x hx
  have h3 := h.top y x hy hx
  omega
/-- The arc added at once. -/
theorem rel_closed {n : Nat} {M : IM} {a b : Nat} {far : Int} (h : Good n M) (ha : a < n) (hb : b < n) (hn : 0 ≤ far + M b a) (x y : Nat) (hx : x < n) (hy : y < n) : rel M a b far x y = min (M x y) (M x a + far + M b y) := by
  have e1 : vba M a b far = M b a := by unfold vba; omega
  have e2 : ∀ y, y < n → vb M a b far y = M b y := by
    intro y hy
    have := h.tri b a y hb ha hy
    unfold vb
    rw [e1]
    have h3 : 0 ≤ far + M b a := hn
    split <;> omega
  have e3 : ∀ x, vxa M a b far x = M x a := by
    intro x
    unfold vxa
    rw [e2 a ha]
    split <;> omega
  unfold rel
  rw [e2 y hy, e3 x]
  simp only [ite_self]

theorem rel_le (M : IM) (a b : Nat) (far : Int) (x y : Nat) : rel M a b far x y ≤ M x y := by unfold rel; omega

theorem rel_neg {n : Nat} {M : IM} {a b : Nat} {far : Int} (h : Good n M) (ha : a < n) (hb : b < n) (hn : far + M b a < 0) : rel M a b far a a < 0 := by
  have h1 := h.diag a ha
  have h2 : vb M a b far a ≤ M b a := by unfold vb; omega
  unfold rel
  simp only [Nat.lt_irrefl, if_false]
  split <;> omega

theorem rel_good {n : Nat} {M : IM} {a b : Nat} {far : Int} (h : Good n M) (ha : a < n) (hb : b < n) (hn : 0 ≤ far + M b a) : Good n (rel M a b far) := by
  refine ⟨fun x hx => ?_, fun x y z hx hy hz => ?_, fun x y hx hy => ?_⟩
  · rw [rel_closed h ha hb hn x x hx hx]
    have h1 := h.diag x hx
    have h2 := h.tri b x a hb hx ha
    omega
  · rw [rel_closed h ha hb hn x z hx hz, rel_closed h ha hb hn x y hx hy, rel_closed h ha hb hn y z hy hz]
    have h1 := h.tri x y z hx hy hz
    have h2 := h.tri b y z hb hy hz
    have h3 := h.tri x y a hx hy ha
    have h4 := h.tri b y a hb hy ha
    omega
  · have := rel_le M a b far x y
    have := h.top x y hx hy
    omega

theorem arc_le (M : IM) (a b : Nat) (far : Int) (x y : Nat) : arc M a b far x y ≤ M x y := by
  unfold arc; split
  · exact Int.le_refl _
  · exact rel_le _ _ _ _ _ _

/-- An arc between two ends: closed, or it shows at the diagonal. -/
theorem arc_cases {n : Nat} {M : IM} {a b : Nat} {far : Int} (h : Good n M) (ha : a < n) (hb : b < n) :
    (Good n (arc M a b far) ∧ (∀ x y, x < n → y < n → arc M a b far x y = min (M x y) (M x a + far + M b y)) ∧ 0 ≤ far + M b a) ∨ (far + M b a < 0 ∧ ∃ k, k < n ∧ arc M a b far k k < 0) := by
  unfold arc
  by_cases hle : M a b ≤ far
  · rw [if_pos hle]
    have h0 : 0 ≤ far + M b a := by have := h.tri a b a ha hb ha; have := h.diag a ha; omega
    refine .inl ⟨h, fun x y hx hy => ?_, h0⟩
    have h1 := h.tri x a y hx ha hy
    have h2 := h.tri a b y ha hb hy
    omega
  · rw [if_neg hle]
    by_cases hn : 0 ≤ far + M b a
    · exact .inl ⟨rel_good h ha hb hn, fun x y hx hy => rel_closed h ha hb hn x y hx hy, hn⟩
    · exact .inr ⟨by omega, a, ha, rel_neg h ha hb (by omega)⟩

theorem diagB_iff {n : Nat} {M : IM} : diagB n M = true ↔ ∀ k, k < n → 0 ≤ M k k := by
  unfold diagB
  rw [List.all_eq_true]
  constructor
  · intro h k hk; simpa using h k (List.mem_range.2 hk)
  · intro h k hk; simpa using h k (List.mem_range.1 hk)

/-- E lies under M, and is additive. -/
structure Under (n : Nat) (E M : IM) : Prop where
  le : ∀ x y, x < n → y < n → E x y ≤ M x y
  add : ∀ x y z, x < n → y < n → z < n → E x z = E x y + E y z

theorem Under.arc {n : Nat} {E M : IM} {a b : Nat} {far : Int} (h : Under n E M) (ha : a < n) (hb : b < n) (hf : E a b ≤ far) : Under n E (arc M a b far) := by
  refine ⟨fun x y hx hy => ?_, h.add⟩
  unfold Go.Proofs.Ytdepakimbagonaa.arc
  split
  · exact h.le x y hx hy
  · have q1 := h.le x y hx hy
    have q2 := h.le x a hx ha
    have q3 := h.le b y hb hy
    have q4 := h.le b a hb ha
    have a1 := h.add x a y hx ha hy
    have a2 := h.add a b y ha hb hy
    have a3 := h.add b a y hb ha hy
    have a4 := h.add x b a hx hb ha
    have a5 := h.add x a b hx ha hb
    have a6 := h.add b a a hb ha ha
    have a7 := h.add b b a hb hb ha
    have a8 := h.add a b a ha hb ha
    unfold rel vxa vb vba
    repeat' split
    all_goals omega

theorem Under.diag {n : Nat} {E M : IM} (h : Under n E M) : diagB n M = true := by
  rw [diagB_iff]
  intro k hk
  have h1 := h.le k k hk hk
  have h2 := h.add k k k hk hk hk
  omega

def Chain.n (c : Chain) : Nat := c.links.toNat + 1
end Go.Proofs.Ytdepakimbagonaa

namespace Go.Proofs.Ytdepakimbagonaa
set_option linter.unusedVariables false
set_option linter.unusedSimpArgs false

end Go.Proofs.Ytdepakimbagonaa

namespace Go.Proofs.Ytdepakimbagonaa
set_option linter.unusedVariables false
set_option linter.unusedSimpArgs false

/-- M is the greatest closed matrix with a property. -/
structure Best (n : Nat) (C : IM → Prop) (M : IM) : Prop where
  good : Good n M
  sat : C M
  best : ∀ E, Good n E → C E → ∀ x y, x < n → y < n → E x y ≤ M x y

theorem Best.same {n : Nat} {C : IM → Prop} {M M' : IM} (h : Best n C M) (h' : Best n C M') : ∀ x y, x < n → y < n → M x y = M' x y := by
  intro x y hx hy
  have h1 := h.best M' h'.good h'.sat x y hx hy
  have h2 := h'.best M h.good h.sat x y hx hy
  omega

theorem Best.arc {n : Nat} {C : IM → Prop} {M : IM} {a b : Nat} {far : Int} (h : Best n C M) (hle : ∀ M', (∀ x y, x < n → y < n → M' x y ≤ M x y) → C M') (ha : a < n) (hb : b < n) (hf : 0 ≤ far + M b a) :
    Best n (fun E => C E ∧ E a b ≤ far) (Go.Proofs.Ytdepakimbagonaa.arc M a b far) := by
  rcases arc_cases (far := far) h.good ha hb with ⟨g, f, _⟩ | ⟨h1, _⟩
  · refine ⟨g, ⟨hle _ fun x y hx hy => arc_le M a b far x y, ?_⟩, fun E hE ⟨hC, hab⟩ x y hx hy => ?_⟩
    · have h1 := h.good.diag a ha
      have h2 := h.good.diag b hb
      rw [f a b ha hb]; omega
    · rw [f x y hx hy]
      have e1 := h.best E hE hC x y hx hy
      have e2 := h.best E hE hC x a hx ha
      have e3 := h.best E hE hC b y hb hy
      have e4 := hE.tri x a y hx ha hy
      have e5 := hE.tri a b y ha hb hy
      omega
  · omega

/-! ## the document's net -/
/-- One end more is taken for the way. -/
def fwP (M : IM) (m : Nat) : IM := fun x y => min (M x y) (M x m + M m y)
def fstg (M : IM) (m p q : Nat) : IM := fun x y => if x < p ∨ (x = p ∧ y < q) then fwP M m x y else M x y
theorem fstg_all (M : IM) (m n x y : Nat) (hx : x < n) : fstg M m n 0 x y = fwP M m x y := by
  unfold fstg; rw [if_pos (by omega)]

/-- The least that an entry can be, before end k is taken. -/
def pw : Nat → Int
  | 0 => 10000000
  | k + 1 => 2 * pw k
/-- Before end k is taken: nothing at the diagonal, and entries that are not great. -/
structure CNet (n k : Nat) (M : IM) : Prop where
  diag : ∀ x, x < n → M x x = 0
  lo : ∀ x y, x < n → y < n → -(pw k) ≤ M x y
  top : ∀ x y, x < n → y < n → M x y ≤ wide

theorem CNet.fstg {n k m : Nat} {M : IM} (h : CNet n k M) (hm : m < n) (p q x y : Nat) (hx : x < n) (hy : y < n) : -(pw (k + 1)) ≤ fstg M m p q x y ∧ fstg M m p q x y ≤ wide := by
  have h1 := h.lo x y hx hy
  have h2 := h.lo x m hx hm
  have h3 := h.lo m y hm hy
  have h4 := h.top x y hx hy
  have h5 : pw (k + 1) = 2 * pw k := rfl
  have h6 := h.diag m hm
  have h7 := h.lo m m hm hm
  unfold Go.Proofs.Ytdepakimbagonaa.fstg fwP
  split <;> omega
theorem CNet.next {n k m : Nat} {M : IM} (h : CNet n k M) (hm : m < n) (hd : diagB n (fwP M m) = true) : CNet n (k + 1) (fwP M m) := by
  rw [diagB_iff] at hd
  refine ⟨fun x hx => ?_, fun x y hx hy => ?_, fun x y hx hy => ?_⟩
  · have h1 := hd x hx
    have h2 := h.diag x hx
    have h3 : fwP M m x x ≤ M x x := by unfold fwP; omega
    omega
  · have := h.fstg hm n 0 x y hx hy
    rw [fstg_all M m n x y hx] at this
    exact this.1
  · have := h.fstg hm n 0 x y hx hy
    rw [fstg_all M m n x y hx] at this
    exact this.2

/-! ## the net asks what the links and gauges ask -/
end Go.Proofs.Ytdepakimbagonaa

namespace Go.Proofs.Ytdepakimbagonaa
set_option linter.unusedVariables false
set_option linter.unusedSimpArgs false

end Go.Proofs.Ytdepakimbagonaa

namespace Go.Proofs.Ytdepakimbagonaa
set_option linter.unusedVariables false
set_option linter.unusedSimpArgs false
open Go.RowKit

structure Use where
  day : Int
  turns : Int
  cls : Int
  meas : Bool
  lo : Int
  hi : Int
structure Part where
  rates : List (Int × Int)
  worn : Int
  turns : Int
  age : Int
def Use.zero : Use := ⟨0, 0, 0, false, 0, 0⟩
def Use.cell (u : Use) : Nat → Value
  | 0 => .int .i64 u.day
  | 1 => .int .i64 u.turns
  | 2 => .int .i64 u.cls
  | 3 => .bool u.meas
  | 4 => .int .i64 u.lo
  | _ => .int .i64 u.hi
def grownS (p : Part) (u : Use) : Int × Int := (u.turns * (p.rates.getD u.cls.toNat (0, 0)).1, u.turns * (p.rates.getD u.cls.toNat (0, 0)).2)
def meetS (a b : Int × Int) : Int × Int := (max a.1 b.1, min a.2 b.2)
def addS (a b : Int × Int) : Int × Int := (a.1 + b.1, a.2 + b.2)
/-- The wear behind use k - 1 by what was before. -/
def fwd (p : Part) (l : List Use) : Nat → Int × Int
  | 0 => (0, 0)
  | k + 1 => if (l.getD k Use.zero).meas then meetS (addS (fwd p l k) (grownS p (l.getD k Use.zero))) ((l.getD k Use.zero).lo, (l.getD k Use.zero).hi) else addS (fwd p l k) (grownS p (l.getD k Use.zero))
def fits (p : Part) (l : List Use) (k : Nat) : Prop := (l.getD k Use.zero).meas = true → (fwd p l (k + 1)).1 ≤ (fwd p l (k + 1)).2
/-- n is the first use by which there is no history, or the number of uses. -/
structure IsAt (p : Part) (l : List Use) (n : Nat) : Prop where
  le : n ≤ l.length
  good : ∀ k, k < n → fits p l k
  bad : n < l.length → ¬ fits p l n
theorem IsAt.same {p : Part} {l : List Use} {n m : Nat} (h : IsAt p l n) (h' : IsAt p l m) : n = m := by
  rcases Nat.lt_trichotomy n m with h1 | h1 | h1
  · exact absurd (h'.good n h1) (h.bad (by have := h'.le; omega))
  · exact h1
  · exact absurd (h.good m h1) (h'.bad (by have := h.le; omega))
end Go.Proofs.Ytdepakimbagonaa

namespace Go.Proofs.Ytdepakimbagonaa
set_option linter.unusedVariables false
set_option linter.unusedSimpArgs false
open Go.RowKit
section
variable {P : Program} {ops : Array Oper} {w w0 : World} {F0 F : Nat → Prop} {R : List Mem} {Q : Exit → Act → World → Prop} {rest : List Oper} {N : FN} {L : List (Nat × Value)} {a : Act} {ty : TypeId} {pos : String} {af : Array Edge}
theorem boxM.same {i b : Nat} {t : TypeId} {cs cs' : List Value} (S : St w0 F0 R w) (hi : R[i]? = some (boxM b t cs)) (h : cs = cs') : St w0 F0 (R.set i (boxM b t cs')) w := by
  subst h; exact S.imp hi (fun h => h) (fun _ h => h)
end

end Go.Proofs.Ytdepakimbagonaa
