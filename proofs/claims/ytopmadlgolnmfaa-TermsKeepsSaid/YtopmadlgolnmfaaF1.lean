/- The data of layer 2, and how they lie in memory. Layer 2, plain: how far the ends of a chain can lie apart. Layer 2, plain: one end after the other is fixed. Layer 2, plain: the document's net, and that it is the web. Layer 2, plain: what the spans of a web are, and the gauges that a witness adds. Parts and uses: the data, and what the program computes of them. Stores of whole structs into owned slices; boxes said otherwise. -/
import Derived.Test.YtopmadlgolnmfaaE2
namespace Go.Proofs.Ytopmadlgolnmfaa
set_option linter.unusedVariables false
set_option linter.unusedSimpArgs false
open Go.RowKit

structure Chain where
  links : Int
  pitch : Int
  limit : Int
structure Gauge where
  fr : Int
  to : Int
  lo : Int
  hi : Int

def Gauge.zero : Gauge := ⟨0, 0, 0, 0⟩
def Gauge.cell (g : Gauge) : Nat → Value
  | 0 => .int .i64 g.fr
  | 1 => .int .i64 g.to
  | 2 => .int .i64 g.lo
  | _ => .int .i64 g.hi
abbrev Chain.val (c : Chain) : Value := .agg [.int .i64 c.links, .int .i64 c.pitch, .int .i64 c.limit].toArray

theorem all_take {α : Type} {l : List α} {p : α → Bool} {k : Nat} {d : α} (hk : k < l.length) (h : (l.take k).all p = true) (hp : p (l.getD k d) = true) : (l.take (k + 1)).all p = true := by
  rw [List.take_succ_eq_append_getElem hk, List.all_append, h]
  simp only [List.getD_eq_getElem?_getD, List.getElem?_eq_getElem hk, Option.getD_some] at hp
  simp [hp]
theorem all_false {α : Type} {l : List α} {p : α → Bool} {k : Nat} {d : α} (hk : k < l.length) (hp : p (l.getD k d) = false) : l.all p = false := by
  simp only [List.getD_eq_getElem?_getD, List.getElem?_eq_getElem hk, Option.getD_some] at hp
  rw [← Bool.not_eq_true, List.all_eq_true]
  intro h
  have := h _ (List.getElem_mem hk)
  rw [hp] at this
  cases this
end Go.Proofs.Ytopmadlgolnmfaa

namespace Go.Proofs.Ytopmadlgolnmfaa
set_option linter.unusedVariables false
set_option linter.unusedSimpArgs false

abbrev IM := Nat → Nat → Int

/-! ## one arc more -/
section
variable (M : IM) (a b : Nat) (far : Int)
end

def diagB (n : Nat) (M : IM) : Bool := (List.range n).all fun k => decide (0 ≤ M k k)
theorem range_all_succ {n k : Nat} {p : Nat → Bool} : (List.range (k + 1)).all p = ((List.range k).all p && p k) := by
  rw [List.range_succ, List.all_append]; simp
theorem range_all_false {n k : Nat} {p : Nat → Bool} (hk : k < n) (h : p k = false) : (List.range n).all p = false := by
  rw [← Bool.not_eq_true, List.all_eq_true]
  intro hh
  have := hh k (List.mem_range.2 hk)
  rw [h] at this
  cases this

/-! ## matrices that are closed -/
def wide : Int := 1099511627776
structure Good (n : Nat) (M : IM) : Prop where
  diag : ∀ x, x < n → M x x = 0
  tri : ∀ x y z, x < n → y < n → z < n → M x z ≤ M x y + M y z
  top : ∀ x y, x < n → y < n → M x y ≤ wide

theorem Good.low {n : Nat} {M : IM} (h : Good n M) {x y : Nat} (hx : x < n) (hy : y < n) : -wide ≤ M x y := by
  have h1 := h.tri x y x hx hy hx
  have h2 := h.diag x hx
  have h3 := h.top y x hy hx
  omega
theorem diagB_iff {n : Nat} {M : IM} : diagB n M = true ↔ ∀ k, k < n → 0 ≤ M k k := by
  unfold diagB
  rw [List.all_eq_true]
  constructor
  · intro h k hk; simpa using h k (List.mem_range.2 hk)
  · intro h k hk; simpa using h k (List.mem_range.1 hk)

/-- E lies under M, and is additive. -/
structure Under (n : Nat) (E M : IM) : Prop where
  le : ∀ x y, x < n → y < n → E x y ≤ M x y
  add : ∀ x y z, x < n → y < n → z < n → E x z = E x y + E y z

theorem Under.diag {n : Nat} {E M : IM} (h : Under n E M) : diagB n M = true := by
  rw [diagB_iff]
  intro k hk
  have h1 := h.le k k hk hk
  have h2 := h.add k k k hk hk hk
  omega

def Chain.n (c : Chain) : Nat := c.links.toNat + 1
end Go.Proofs.Ytopmadlgolnmfaa

namespace Go.Proofs.Ytopmadlgolnmfaa
set_option linter.unusedVariables false
set_option linter.unusedSimpArgs false

end Go.Proofs.Ytopmadlgolnmfaa

namespace Go.Proofs.Ytopmadlgolnmfaa
set_option linter.unusedVariables false
set_option linter.unusedSimpArgs false

/-- M is the greatest closed matrix with a property. -/
structure Best (n : Nat) (C : IM → Prop) (M : IM) : Prop where
  good : Good n M
  sat : C M
  best : ∀ E, Good n E → C E → ∀ x y, x < n → y < n → E x y ≤ M x y

theorem Best.same {n : Nat} {C : IM → Prop} {M M' : IM} (h : Best n C M) (h' : Best n C M') : ∀ x y, x < n → y < n → M x y = M' x y := by
  intro x y hx hy
  have h1 := h.best M' h'.good h'.sat x y hx hy
  have h2 := h'.best M h.good h.sat x y hx hy
  omega

/-! ## the document's net -/
/-- One end more is taken for the way. -/
def fwP (M : IM) (m : Nat) : IM := fun x y => min (M x y) (M x m + M m y)
def fstg (M : IM) (m p q : Nat) : IM := fun x y => if x < p ∨ (x = p ∧ y < q) then fwP M m x y else M x y
theorem fstg_all (M : IM) (m n x y : Nat) (hx : x < n) : fstg M m n 0 x y = fwP M m x y := by
  unfold fstg; rw [if_pos (by omega)]

/-- The least that an entry can be, before end k is taken. -/
def pw : Nat → Int
  | 0 => 10000000
  | k + 1 => 2 * pw k
/-- Before end k is taken: nothing at the diagonal, and entries that are not great. -/
structure CNet (n k : Nat) (M : IM) : Prop where
  diag : ∀ x, x < n → M x x = 0
  lo : ∀ x y, x < n → y < n → -(pw k) ≤ M x y
  top : ∀ x y, x < n → y < n → M x y ≤ wide

theorem CNet.fstg {n k m : Nat} {M : IM} (h : CNet n k M) (hm : m < n) (p q x y : Nat) (hx : x < n) (hy : y < n) : -(pw (k + 1)) ≤ fstg M m p q x y ∧ fstg M m p q x y ≤ wide := by
  have h1 := h.lo x y hx hy
  have h2 := h.lo x m hx hm
  have h3 := h.lo m y hm hy
  have h4 := h.top x y hx hy
  have h5 : pw (k + 1) = 2 * pw k := rfl
  have h6 := h.diag m hm
  have h7 := h.lo m m hm hm
  unfold Go.Proofs.Ytopmadlgolnmfaa.fstg fwP
  split <;> omega
theorem CNet.next {n k m : Nat} {M : IM} (h : CNet n k M) (hm : m < n) (hd : diagB n (fwP M m) = true) : CNet n (k + 1) (fwP M m) := by
  rw [diagB_iff] at hd
  refine ⟨fun x hx => ?_, fun x y hx hy => ?_, fun x y hx hy => ?_⟩
  · have h1 := hd x hx
    have h2 := h.diag x hx
    have h3 : fwP M m x x ≤ M x x := by unfold fwP; omega
    omega
  · have := h.fstg hm n 0 x y hx hy
    rw [fstg_all M m n x y hx] at this
    exact this.1
  · have := h.fstg hm n 0 x y hx hy
    rw [fstg_all M m n x y hx] at this
    exact this.2

/-! ## the net asks what the links and gauges ask -/
end Go.Proofs.Ytopmadlgolnmfaa

namespace Go.Proofs.Ytopmadlgolnmfaa
set_option linter.unusedVariables false
set_option linter.unusedSimpArgs false

end Go.Proofs.Ytopmadlgolnmfaa

namespace Go.Proofs.Ytopmadlgolnmfaa
set_option linter.unusedVariables false
set_option linter.unusedSimpArgs false
open Go.RowKit

structure Use where
  day : Int
  turns : Int
  cls : Int
  meas : Bool
  lo : Int
  hi : Int
structure Part where
  rates : List (Int × Int)
  worn : Int
  turns : Int
  age : Int
def Use.zero : Use := ⟨0, 0, 0, false, 0, 0⟩
def Use.cell (u : Use) : Nat → Value
  | 0 => .int .i64 u.day
  | 1 => .int .i64 u.turns
  | 2 => .int .i64 u.cls
  | 3 => .bool u.meas
  | 4 => .int .i64 u.lo
  | _ => .int .i64 u.hi
def ucell (l : List Use) (k j : Nat) : Value := (l.getD k Use.zero).cell j
def scellOf (s : Int × Int) : Nat → Value
  | 0 => .int .i64 s.1
  | _ => .int .i64 s.2
/-- The cells of spans. -/
def scell (l : List (Int × Int)) (k j : Nat) : Value := scellOf (l.getD k (0, 0)) j
def fcell (f : Nat → Int × Int) (k j : Nat) : Value := scellOf (f k) j

def partHdr (p : Part) : Bool := decide (1 ≤ p.rates.length ∧ p.rates.length ≤ 4 ∧ 0 ≤ p.worn ∧ p.worn ≤ 1000 ∧ 0 ≤ p.turns ∧ p.turns ≤ 1000000 ∧ 0 ≤ p.age ∧ p.age ≤ 100000)
def rateOk (r : Int × Int) : Bool := decide (0 ≤ r.1 ∧ r.1 ≤ r.2 ∧ r.2 ≤ 1000000)
def useOk (n : Nat) (d : Int) (u : Use) : Bool := decide ((d ≤ u.day ∧ u.day ≤ 100000 ∧ 0 ≤ u.turns ∧ u.turns ≤ 1000000 ∧ 0 ≤ u.cls ∧ u.cls ≤ (n : Int) - 1) ∧ 0 ≤ u.lo ∧ u.lo ≤ u.hi ∧ u.hi ≤ 2000000000 ∧ (u.meas = false → u.lo = 0 ∧ u.hi = 0))
def prevD (l : List Use) : Nat → Int
  | 0 => 0
  | k + 1 => (l.getD k Use.zero).day
def usesTo (n : Nat) (l : List Use) (k : Nat) : Bool := (List.range k).all fun i => useOk n (prevD l i) (l.getD i Use.zero)
def checkP (p : Part) (l : List Use) : Int :=
  if partHdr p then (if p.rates.all rateOk then (if l.length ≤ 40 then (if usesTo p.rates.length l l.length then 0 else 23) else 23) else 22) else 22

structure PartOk (p : Part) (l : List Use) : Prop where
  hdr : partHdr p = true
  rates : p.rates.all rateOk = true
  len : l.length ≤ 40
  uses : usesTo p.rates.length l l.length = true

theorem checkP_ok {p : Part} {l : List Use} (h : checkP p l = 0) : PartOk p l := by
  unfold checkP at h
  split at h
  · split at h
    · split at h
      · split at h
        · exact ⟨by assumption, by assumption, by assumption, by assumption⟩
        · cases h
      · cases h
    · cases h
  · cases h
theorem PartOk.use {p : Part} {l : List Use} (h : PartOk p l) {k : Nat} (hk : k < l.length) : useOk p.rates.length (prevD l k) (l.getD k Use.zero) = true := by
  have := h.uses
  unfold usesTo at this
  exact List.all_eq_true.1 this k (List.mem_range.2 hk)
theorem PartOk.rate {p : Part} {l : List Use} (h : PartOk p l) {k : Nat} (hk : k < p.rates.length) : rateOk (p.rates.getD k (0, 0)) = true := by
  rw [List.getD_eq_getElem?_getD, List.getElem?_eq_getElem hk]
  exact List.all_eq_true.1 h.rates _ (List.getElem_mem hk)

def grownS (p : Part) (u : Use) : Int × Int := (u.turns * (p.rates.getD u.cls.toNat (0, 0)).1, u.turns * (p.rates.getD u.cls.toNat (0, 0)).2)
def meetS (a b : Int × Int) : Int × Int := (max a.1 b.1, min a.2 b.2)
def addS (a b : Int × Int) : Int × Int := (a.1 + b.1, a.2 + b.2)
/-- The wear behind use k - 1 by what was before. -/
def fwd (p : Part) (l : List Use) : Nat → Int × Int
  | 0 => (0, 0)
  | k + 1 => if (l.getD k Use.zero).meas then meetS (addS (fwd p l k) (grownS p (l.getD k Use.zero))) ((l.getD k Use.zero).lo, (l.getD k Use.zero).hi) else addS (fwd p l k) (grownS p (l.getD k Use.zero))
def fits (p : Part) (l : List Use) (k : Nat) : Prop := (l.getD k Use.zero).meas = true → (fwd p l (k + 1)).1 ≤ (fwd p l (k + 1)).2
/-- n is the first use by which there is no history, or the number of uses. -/
structure IsAt (p : Part) (l : List Use) (n : Nat) : Prop where
  le : n ≤ l.length
  good : ∀ k, k < n → fits p l k
  bad : n < l.length → ¬ fits p l n
theorem IsAt.same {p : Part} {l : List Use} {n m : Nat} (h : IsAt p l n) (h' : IsAt p l m) : n = m := by
  rcases Nat.lt_trichotomy n m with h1 | h1 | h1
  · exact absurd (h'.good n h1) (h.bad (by have := h'.le; omega))
  · exact h1
  · exact absurd (h.good m h1) (h'.bad (by have := h.le; omega))
def bkw (p : Part) (l : List Use) : Nat → Int × Int
  | 0 => fwd p l l.length
  | d + 1 => meetS (fwd p l (l.length - 1 - d)) ((bkw p l d).1 - (grownS p (l.getD (l.length - 1 - d) Use.zero)).2, (bkw p l d).2 - (grownS p (l.getD (l.length - 1 - d) Use.zero)).1)
/-- The wear behind use k by all uses. -/
def wearAt (p : Part) (l : List Use) (k : Nat) : Int × Int := bkw p l (l.length - 1 - k)

theorem grown_bd {p : Part} {l : List Use} (h : PartOk p l) {k : Nat} (hk : k < l.length) : 0 ≤ (grownS p (l.getD k Use.zero)).1 ∧ (grownS p (l.getD k Use.zero)).1 ≤ 1000000000000 ∧ 0 ≤ (grownS p (l.getD k Use.zero)).2 ∧ (grownS p (l.getD k Use.zero)).2 ≤ 1000000000000 := by
  have hu := h.use hk
  unfold useOk at hu
  simp only [decide_eq_true_eq] at hu
  have hr := h.rate (k := (l.getD k Use.zero).cls.toNat) (by omega)
  unfold rateOk at hr
  simp only [decide_eq_true_eq] at hr
  unfold grownS
  refine ⟨Int.mul_nonneg (by omega) (by omega), ?_, Int.mul_nonneg (by omega) (by omega), ?_⟩
  · exact Int.le_trans (Int.mul_le_mul (c := 1000000) (d := 1000000) (by omega) (by omega) (by omega) (by omega)) (by decide)
  · exact Int.le_trans (Int.mul_le_mul (c := 1000000) (d := 1000000) (by omega) (by omega) (by omega) (by omega)) (by decide)
theorem fwd_bd {p : Part} {l : List Use} (h : PartOk p l) : ∀ k, k ≤ l.length → 0 ≤ (fwd p l k).1 ∧ (fwd p l k).1 ≤ (k : Int) * 1000000000000 ∧ 0 ≤ (fwd p l k).2 ∧ (fwd p l k).2 ≤ (k : Int) * 1000000000000 := by
  intro k
  induction k with
  | zero => intro _; simp [fwd]
  | succ k ih =>
    intro hk
    have h1 := ih (by omega)
    have h2 := grown_bd h (show k < l.length by omega)
    have hu := h.use (show k < l.length by omega)
    unfold useOk at hu
    simp only [decide_eq_true_eq] at hu
    unfold fwd addS meetS
    split <;> (dsimp only; omega)
theorem bkw_bd {p : Part} {l : List Use} (h : PartOk p l) : ∀ d, d < l.length → -((d : Int) * 1000000000000) ≤ (bkw p l d).1 ∧ (bkw p l d).1 ≤ 40000000000000 ∧ -((d : Int) * 1000000000000) ≤ (bkw p l d).2 ∧ (bkw p l d).2 ≤ 40000000000000 := by
  intro d
  have hlen := h.len
  induction d with
  | zero => intro hd; have := fwd_bd h l.length (Nat.le_refl _); unfold bkw; omega
  | succ d ih =>
    intro hd
    have h1 := ih (by omega)
    have h2 := grown_bd h (show l.length - 1 - d < l.length by omega)
    have h3 := fwd_bd h (l.length - 1 - d) (by omega)
    unfold bkw meetS
    dsimp only
    omega

def sumT (l : List Use) : Nat → Int
  | 0 => 0
  | k + 1 => sumT l k + (l.getD k Use.zero).turns
theorem sumT_bd {p : Part} {l : List Use} (h : PartOk p l) : ∀ k, k ≤ l.length → 0 ≤ sumT l k ∧ sumT l k ≤ (k : Int) * 1000000 := by
  intro k
  induction k with
  | zero => intro _; simp [sumT]
  | succ k ih =>
    intro hk
    have h1 := ih (by omega)
    have hu := h.use (show k < l.length by omega)
    unfold useOk at hu
    simp only [decide_eq_true_eq] at hu
    unfold sumT
    omega
def wearEnd (p : Part) (l : List Use) : Int := if l.length = 0 then 0 else (fwd p l l.length).2
end Go.Proofs.Ytopmadlgolnmfaa

namespace Go.Proofs.Ytopmadlgolnmfaa
set_option linter.unusedVariables false
set_option linter.unusedSimpArgs false
open Go.RowKit
section
variable {P : Program} {ops : Array Oper} {w w0 : World} {F0 F : Nat → Prop} {R : List Mem} {Q : Exit → Act → World → Prop} {rest : List Oper} {N : FN} {L : List (Nat × Value)} {a : Act} {ty : TypeId} {pos : String} {af : Array Edge}
theorem boxM.same {i b : Nat} {t : TypeId} {cs cs' : List Value} (S : St w0 F0 R w) (hi : R[i]? = some (boxM b t cs)) (h : cs = cs') : St w0 F0 (R.set i (boxM b t cs')) w := by
  subst h; exact S.imp hi (fun h => h) (fun _ h => h)
theorem own_rd2 {i e n c k : Nat} {A : Option Addr} {f : Nat → Int × Int} {s : Int × Int} (S : St w0 F0 R w) (hi : R[i]? = some (ownM e 2 A n c (fcell f))) (hk : k < n) (hs : f k = s) :
    ∀ (j : Nat) v, [Value.int .i64 s.1, Value.int .i64 s.2][j]? = some v → w.cell? ⟨(adr A).block, (adr A).off + k * 2 + 0 + j, none⟩ = some v := by
  intro j v hv
  subst hs
  have h0 := ownM.rd S hi hk (j := j)
  have hj : j < 2 := (List.getElem?_eq_some_iff.1 hv).1
  have h1 := h0 hj
  have : j = 0 ∨ j = 1 := by omega
  rcases this with rfl | rfl <;> (simp at hv; subst hv; exact h1)
theorem list_store_own2 {t e i kk n c : Nat} {A : Option Addr} {f : Nat → Int × Int} {x y : Operand} {v1 v2 : Int} (H : Fr N L a) (S : St w0 F0 R w) (hi : R[i]? = some (ownM e 2 A n c (fcell f)))
    (hx : ev L x = some (.pointer (some (pt A 2 kk 0)))) (hy : ev L y = some (.agg [.int .i64 v1, .int .i64 v2].toArray)) (hk : kk < n) (hs : Sz P t 2)
    (k : ∀ w' a', St w0 F0 (R.set i (ownM e 2 A n c (fcell fun q => if q = kk then (v1, v2) else f q))) w' → Fr N L a' → wpList P ops Q rest a' w') :
    wpList P ops Q (⟨none, .store t x y, ty, pos, af, none⟩ :: rest) a w := by
  refine wpList_plain rfl fun K hK => ?_
  unfold Oper.wp
  rcases S.holds hi with ⟨_, h, _⟩ | ⟨b, cs, rfl, hb, hnc, hcm, hsz, hc⟩
  · omega
  have hlt : kk * 2 + 1 < cs.size := by omega
  have hp : pt (some ⟨b, 0, none⟩) 2 kk 0 = ⟨b, kk * 2, none⟩ := by simp [pt, adr]
  rw [hp] at hx
  have hr := run_storeVar (P := P) (w := w) (t := t) (b := b) (o := kk * 2) (v := .agg [.int .i64 v1, .int .i64 v2].toArray) (vs := [.int .i64 v1, .int .i64 v2]) (by simpa using hs) rfl hb (by simp; omega) (fun u hu => by
    simp only [List.mem_cons, List.not_mem_nil, or_false] at hu
    rcases hu with rfl | rfl <;> rfl)
  have e1 : (execOp a.eval ⟨none, .store t x y, ty, pos, af, none⟩).run P w = .ok .skip (w.setRow b (splice cs.toList (kk * 2) [.int .i64 v1, .int .i64 v2]).toArray) := by
    simp only [execOp, H.eval hx, H.eval hy]
    simp only [Sem.run_bind, hr]
    rfl
  rw [e1]
  refine hK _ _ (k _ _ (S.updSame hi ((setRow_keeps w b _).mono ?_) ?_ (fun _ h => h)) (H.put_none _))
  · rintro q rfl; exact ⟨_, rfl, rfl⟩
  · refine .inr ⟨b, _, rfl, setRow_heap w b _ _ e (0, 0) hb, hnc, hcm, ?_, ?_⟩
    · rw [List.size_toArray, splice_length _ _ _ (by simp; omega)]; simpa using hsz
    · intro k' j' hk' hj'
      rw [List.getElem?_toArray, splice_eq _ _ _ (by simp; omega)]
      have hj2 : j' = 0 ∨ j' = 1 := by omega
      by_cases hh : k' = kk
      · subst hh
        rw [List.append_assoc, List.getElem?_append_right (by simp; omega)]
        simp only [List.length_take, Array.length_toList, Nat.min_eq_left (show k' * 2 ≤ cs.size by omega)]
        rcases hj2 with rfl | rfl <;> simp [fcell, scellOf]
      · have hcell := hc k' j' hk' hj'
        have : fcell (fun q => if q = kk then (v1, v2) else f q) k' j' = fcell f k' j' := by simp [fcell, hh]
        rw [this, ← hcell]
        rcases Nat.lt_or_ge (k' * 2 + j') (kk * 2) with h | h
        · rw [List.append_assoc, List.getElem?_append_left (by simp; omega), List.getElem?_take_of_lt h]; simp
        · have h' : kk * 2 + 2 ≤ k' * 2 + j' := by omega
          rw [List.getElem?_append_right (by simp; omega), List.getElem?_drop]
          simp only [List.length_append, List.length_take, List.length_cons, List.length_nil, Array.length_toList]
          rw [Nat.min_eq_left (by omega)]
          rw [show kk * 2 + (0 + 1 + 1) + (k' * 2 + j' - (kk * 2 + (0 + 1 + 1))) = k' * 2 + j' by omega]
          simp
end

theorem fwd_meas {p : Part} {l : List Use} {k : Nat} (h : (l.getD k Use.zero).meas = true) : fwd p l (k + 1) = meetS (addS (fwd p l k) (grownS p (l.getD k Use.zero))) ((l.getD k Use.zero).lo, (l.getD k Use.zero).hi) := by rw [fwd, if_pos h]
theorem fwd_not {p : Part} {l : List Use} {k : Nat} (h : (l.getD k Use.zero).meas = false) : fwd p l (k + 1) = addS (fwd p l k) (grownS p (l.getD k Use.zero)) := by rw [fwd, if_neg (by rw [h]; simp)]
theorem fits_not {p : Part} {l : List Use} {k : Nat} (h : (l.getD k Use.zero).meas = false) : fits p l k := fun h' => by rw [h] at h'; cases h'
theorem wearAt_bd {p : Part} {l : List Use} (h : PartOk p l) {k : Nat} (hk : k < l.length) : -40000000000000 ≤ (wearAt p l k).1 ∧ (wearAt p l k).1 ≤ 40000000000000 ∧ -40000000000000 ≤ (wearAt p l k).2 ∧ (wearAt p l k).2 ≤ 40000000000000 := by
  have := bkw_bd h (l.length - 1 - k) (by omega)
  have := h.len
  unfold wearAt
  omega
theorem wearAt_last {p : Part} {l : List Use} {k : Nat} (hk : k + 1 = l.length) : wearAt p l k = fwd p l l.length := by
  unfold wearAt; rw [show l.length - 1 - k = 0 by omega]; rfl
theorem wearAt_step {p : Part} {l : List Use} {k : Nat} (hk : k + 1 < l.length) : wearAt p l k = meetS (fwd p l (k + 1)) ((wearAt p l (k + 1)).1 - (grownS p (l.getD (k + 1) Use.zero)).2, (wearAt p l (k + 1)).2 - (grownS p (l.getD (k + 1) Use.zero)).1) := by
  unfold wearAt
  rw [show l.length - 1 - k = (l.length - 1 - (k + 1)) + 1 by omega]
  rw [bkw]
  rw [show l.length - 1 - (l.length - 1 - (k + 1)) = k + 1 by omega]
end Go.Proofs.Ytopmadlgolnmfaa
