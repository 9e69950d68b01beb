/- Chapter 3: safety circuits, in plain words. -/
import Derived.Test.YtdepakimbagonaaE3
import Derived.Test.YtdepakimbagonaaE1
namespace Go.Proofs.Ytdepakimbagonaa
set_option linter.unusedVariables false
set_option linter.unusedSimpArgs false
open Go.RowKit

structure Wr where
  kind : Int
  of : List Int
def Wr.zero : Wr := ⟨0, []⟩
def wrcell (ws : List Wr) (OA : Nat → Option Addr) (oc : Nat → Nat) (k : Nat) : Nat → Value
  | 0 => .int .i64 (ws.getD k Wr.zero).kind
  | _ => .slice (OA k) (ws.getD k Wr.zero).of.length (oc k)
def landI (a b : Int) : Int := ((a.toNat &&& b.toNat : Nat) : Int)
section
variable {P : Program} {L : List (Nat × Value)} {w : World} {d : Option Nat} {ty : TypeId} {pos : String} {af : Array Edge} {g : Option (Nat × Bool)}
theorem does_land {x y : Operand} {xt yt : TypeId} {m k : Int} (hx : ev L x = some (.int .i64 m)) (hy : ev L y = some (.int .i64 k)) (hm : 0 ≤ m ∧ m ≤ 1000000) (hk : 0 ≤ k ∧ k ≤ 1000000) :
    Does P L ⟨d, .binOp .and xt x y yt, ty, pos, af, g⟩ w (.int .i64 (landI m k)) := fun ρ hρ => by
  obtain ⟨m, rfl⟩ : ∃ n : Nat, m = n := ⟨m.toNat, by omega⟩
  obtain ⟨k, rfl⟩ : ∃ n : Nat, k = n := ⟨k.toNat, by omega⟩
  have e0 : ((BitVec.ofInt 64 (m : Int) &&& BitVec.ofInt 64 (k : Int)).toNat) = m &&& k := by
    rw [BitVec.toNat_and, BitVec.ofInt_natCast, BitVec.ofInt_natCast, BitVec.toNat_ofNat, BitVec.toNat_ofNat, Nat.mod_eq_of_lt (by omega), Nat.mod_eq_of_lt (by omega)]
  have hle : m &&& k ≤ m := Nat.and_le_left
  have e1 : IntKind.i64.wrap ((BitVec.ofInt 64 (m : Int) &&& BitVec.ofInt 64 (k : Int)).toNat : Int) = ((m &&& k : Nat) : Int) := by
    rw [e0]; exact i64ok.eq ⟨by omega, by omega⟩
  have e : Op.intBits .and .i64 (m : Int) (k : Int) = pure (.int .i64 (landI m k)) := by
    unfold landI
    rw [Int.toNat_natCast, Int.toNat_natCast]
    exact congrArg (fun z => (pure (Value.int .i64 z) : Sem Value)) e1
  simp [execOp, hρ _ _ hx, hρ _ _ hy, eqGuard, binOp, e]
end
def condB (sw : List Int) (hz cl op s : Int) : Bool := decide (op / 2 ^ s.toNat % 2 = 0) && (decide (cl / 2 ^ s.toNat % 2 = 1) || decide (landI (sw.getD s.toNat 0) hz = 0))
def wireB (sw : List Int) (ws : List Wr) (hz cl op : Int) : Nat → Nat → Bool
  | 0, _ => false
  | n + 1, i => if (ws.getD i Wr.zero).kind = 1 then condB sw hz cl op ((ws.getD i Wr.zero).of.getD 0 0)
    else if (ws.getD i Wr.zero).kind = 3 then (ws.getD i Wr.zero).of.any fun k => wireB sw ws hz cl op n k.toNat
    else !((ws.getD i Wr.zero).of.any fun k => !wireB sw ws hz cl op n k.toNat)
/-! ## what is valid -/
def setB (n hz : Int) : Bool := decide (0 ≤ n) && decide (n < 1 * 2 ^ hz.toNat)
def lowA (l : List Int) (lo : Int) (q : Nat) : Int := if q = 0 then lo else l.getD (q - 1) 0 + 1
def ascP (l : List Int) (lo hi : Int) (q : Nat) : Bool := decide (lowA l lo q ≤ l.getD q 0 ∧ l.getD q 0 < hi)
def ascB (l : List Int) (lo hi : Int) : Bool := (List.range l.length).all (ascP l lo hi)
def wrOk (nsw nws : Nat) (ws : List Wr) (i : Nat) : Bool :=
  if (ws.getD i Wr.zero).kind = 1 then decide ((ws.getD i Wr.zero).of.length = 1) && ascB (ws.getD i Wr.zero).of 0 nsw
  else if (ws.getD i Wr.zero).kind = 2 ∨ (ws.getD i Wr.zero).kind = 3 then decide (1 ≤ (ws.getD i Wr.zero).of.length ∧ (ws.getD i Wr.zero).of.length ≤ 8) && ascB (ws.getD i Wr.zero).of ((i : Int) + 1) nws else false
def cntO (l : List Int) (k : Nat) : Nat → Int := sm fun q => if l.getD q 0 = (k : Int) then 1 else 0
def heldW (w : Wr) (k : Nat) : Int := if w.kind = 1 then 0 else cntO w.of k w.of.length
def heldN (ws : List Wr) (k : Nat) : Nat → Int := sm fun i => heldW (ws.getD i Wr.zero) k
def cirSz (hz : Int) (sw : List Int) (ws : List Wr) : Bool := (decide (1 ≤ hz) && decide (hz ≤ 8)) && ((decide (1 ≤ (sw.length : Int)) && decide ((sw.length : Int) ≤ 12)) && (decide (1 ≤ (ws.length : Int)) && decide ((ws.length : Int) ≤ 24)))
def cirOk (hz : Int) (sw : List Int) (ws : List Wr) : Bool := (cirSz hz sw ws && !(sw.any fun n => !setB n hz)) && ((List.range ws.length).all (wrOk sw.length ws.length ws) && (decide (heldN ws 0 ws.length = 0) && !((List.range (ws.length - 1)).any fun q => !decide (heldN ws (q + 1) ws.length = 1))))
def circE (hz : Int) (sw : List Int) (ws : List Wr) : Int := if cirOk hz sw ws = true then 0 else 30
section
variable {hz lo hi : Int} {sw l : List Int} {ws : List Wr} {k i : Nat}
theorem asc_all (h : ∀ q, q < l.length → ascP l lo hi q = true) : ascB l lo hi = true := List.all_eq_true.2 fun q hq => h q (List.mem_range.1 hq)
theorem asc_bad (hk : k < l.length) (h : ascP l lo hi k = false) : ascB l lo hi = false := by
  cases hb : ascB l lo hi with
  | false => rfl
  | true =>
    have := List.all_eq_true.1 hb k (List.mem_range.2 hk)
    rw [this] at h; cases h
theorem asc_at (h : ascB l lo hi = true) (hk : k < l.length) : lowA l lo k ≤ l.getD k 0 ∧ l.getD k 0 < hi := by
  have := List.all_eq_true.1 h k (List.mem_range.2 hk)
  unfold ascP at this
  exact of_decide_eq_true this
theorem asc_ge (h : ascB l lo hi = true) (hk : k < l.length) : lo ≤ l.getD k 0 ∧ l.getD k 0 < hi := by
  have key : ∀ q, q < l.length → lo ≤ l.getD q 0 := by
    intro q
    induction q with
    | zero => intro hq; have := (asc_at h hq).1; unfold lowA at this; simpa using this
    | succ q ih =>
      intro hq
      have h1 := ih (by omega)
      have h2 := (asc_at h hq).1
      unfold lowA at h2
      rw [if_neg (by omega)] at h2
      simp only [Nat.add_sub_cancel] at h2
      omega
  exact ⟨key k hk, (asc_at h hk).2⟩
theorem circ_ok (h : circE hz sw ws = 0) : cirOk hz sw ws = true := by unfold circE at h; split at h; assumption; cases h
theorem circ_zero (h : cirOk hz sw ws = true) : circE hz sw ws = 0 := by unfold circE; rw [if_pos h]
theorem circ_bad (h : cirOk hz sw ws = false) : circE hz sw ws = 30 := by unfold circE; rw [if_neg (by rw [h]; simp)]
/-- A valid circuit. -/
structure CirV (hz : Int) (sw : List Int) (ws : List Wr) : Prop where
  hzb : 1 ≤ hz ∧ hz ≤ 8
  nsw : 1 ≤ sw.length ∧ sw.length ≤ 12
  nws : 1 ≤ ws.length ∧ ws.length ≤ 24
  swb : ∀ k, k < sw.length → 0 ≤ sw.getD k 0 ∧ sw.getD k 0 ≤ 255
  one : ∀ i, i < ws.length → (ws.getD i Wr.zero).kind = 1 → (ws.getD i Wr.zero).of.length = 1 ∧ 0 ≤ (ws.getD i Wr.zero).of.getD 0 0 ∧ (ws.getD i Wr.zero).of.getD 0 0 < sw.length
  more : ∀ i, i < ws.length → (ws.getD i Wr.zero).kind ≠ 1 → (ws.getD i Wr.zero).of.length ≤ 8 ∧ ∀ q, q < (ws.getD i Wr.zero).of.length → (i : Int) + 1 ≤ (ws.getD i Wr.zero).of.getD q 0 ∧ (ws.getD i Wr.zero).of.getD q 0 < ws.length
theorem circ_valid (h : cirOk hz sw ws = true) : CirV hz sw ws := by
  unfold cirOk cirSz at h
  simp only [Bool.and_eq_true, decide_eq_true_eq, Bool.not_eq_true'] at h
  obtain ⟨⟨⟨h1, h2, h3⟩, h4⟩, h5, _⟩ := h
  have hset : ∀ k, k < sw.length → setB (sw.getD k 0) hz = true := fun k hk => by
    cases hb : setB (sw.getD k 0) hz with
    | true => rfl
    | false =>
      have : (sw.any fun n => !setB n hz) = true := List.any_eq_true.2 ⟨sw.getD k 0, by rw [List.getD_eq_getElem?_getD, List.getElem?_eq_getElem hk]; exact List.getElem_mem hk, by rw [hb]; rfl⟩
      rw [this] at h4; cases h4
  have hw : ∀ i, i < ws.length → wrOk sw.length ws.length ws i = true := fun i hi => List.all_eq_true.1 h5 i (List.mem_range.2 hi)
  have hpw : (2 : Int) ^ hz.toNat ≤ 256 := by
    have h9 : hz.toNat ≤ 8 := by omega
    have h8 : 2 ^ hz.toNat ≤ 256 := Nat.le_trans (Nat.pow_le_pow_right (by omega) h9) (by decide)
    have e : (2 : Int) ^ hz.toNat = ((2 ^ hz.toNat : Nat) : Int) := (Int.natCast_pow 2 hz.toNat).symm
    rw [e]
    omega
  refine ⟨h1, ⟨by omega, by omega⟩, ⟨by omega, by omega⟩, fun k hk => ?_, fun i hi hk => ?_, fun i hi hk => ?_⟩
  · have := hset k hk
    unfold setB at this
    simp only [Bool.and_eq_true, decide_eq_true_eq] at this
    omega
  · have := hw i hi
    unfold wrOk at this
    rw [if_pos hk] at this
    simp only [Bool.and_eq_true, decide_eq_true_eq] at this
    have h9 := asc_ge this.2 (k := 0) (by omega)
    exact ⟨this.1, h9.1, h9.2⟩
  · have := hw i hi
    unfold wrOk at this
    rw [if_neg hk] at this
    split at this
    · simp only [Bool.and_eq_true, decide_eq_true_eq] at this
      exact ⟨this.1.2, fun q hq => asc_ge this.2 hq⟩
    · cases this
theorem any_atC {p : Int → Bool} (hk : k < l.length) (h : p (l.getD k 0) = true) : l.any p = true := by
  rw [List.getD_eq_getElem?_getD, List.getElem?_eq_getElem hk] at h
  exact List.any_eq_true.2 ⟨_, List.getElem_mem hk, h⟩
theorem any_takeC {p : Int → Bool} (hk : k < l.length) (h : (l.take k).any p = false) (h2 : p (l.getD k 0) = false) : (l.take (k + 1)).any p = false := by
  rw [List.getD_eq_getElem?_getD, List.getElem?_eq_getElem hk] at h2
  rw [List.take_succ_eq_append_getElem hk, List.any_append, h]
  simpa using h2
end
end Go.Proofs.Ytdepakimbagonaa
