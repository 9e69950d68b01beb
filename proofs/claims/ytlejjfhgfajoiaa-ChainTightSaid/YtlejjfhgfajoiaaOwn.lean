/- A store of a struct's cells into an element of an owned slice. -/
import Derived.Test.YtlejjfhgfajoiaaWr
namespace Go.Proofs.Ytlejjfhgfajoiaa
set_option linter.unusedVariables false
set_option linter.unusedSimpArgs false
open Go.RowKit
section
variable {P : Program} {ops : Array Oper} {w w0 : World} {F0 : Nat → Prop} {R : List Mem} {Q : Exit → Act → World → Prop} {rest : List Oper} {N : Nat} {L : List (Nat × Value)} {a : Act} {ty : TypeId} {pos : String} {af : Array Edge}
theorem splice_get (cs : List Value) (o : Nat) (vs : List Value) (q : Nat) (h : o + vs.length ≤ cs.length) : (splice cs o vs)[q]? = if o ≤ q ∧ q < o + vs.length then vs[q - o]? else cs[q]? := by
  rw [splice_eq cs o vs h]
  by_cases h1 : q < o
  · rw [if_neg (by omega), List.append_assoc, List.getElem?_append_left (by simp; omega), List.getElem?_take_of_lt h1]
  · by_cases h2 : q < o + vs.length
    · rw [if_pos (by omega), List.append_assoc, List.getElem?_append_right (by simp; omega)]
      simp only [List.length_take]
      rw [Nat.min_eq_left (by omega), List.getElem?_append_left (by omega)]
    · rw [if_neg (by omega), List.getElem?_append_right (by simp; omega), List.getElem?_drop]
      simp only [List.length_append, List.length_take]
      rw [Nat.min_eq_left (by omega)]
      congr 1
      omega
theorem list_store_owns {t e sz i kk j n c : Nat} {A : Option Addr} {cell : Nat → Nat → Value} {x y : Operand} {v : Value} {vs : List Value} (H : Fr N L a) (S : St w0 F0 R w) (hi : R[i]? = some (ownM e sz A n c cell))
    (hx : ev L x = some (.pointer (some (pt A sz kk j)))) (hy : ev L y = some v) (hv : v.cells = vs.toArray) (hk : kk < n) (hj : j + vs.length ≤ sz) (hs : Sz P t vs.length) (h1 : vs.all Value.oneCell' = true)
    (k : ∀ w' a', St w0 F0 (R.set i (ownM e sz A n c (cputs cell kk j vs))) w' → Fr N L a' → wpList P ops Q rest a' w') :
    wpList P ops Q (⟨none, .store t x y, ty, pos, af, none⟩ :: rest) a w := by
  refine wpList_plain rfl fun K hK => ?_
  unfold Oper.wp
  rcases S.holds hi with ⟨_, h, _⟩ | ⟨b, cs, rfl, hb, hnc, hcm, hsz, hc⟩
  · omega
  have hlt : kk * sz + j + vs.length ≤ cs.size := by
    rw [hsz]
    have : (kk + 1) * sz ≤ c * sz := Nat.mul_le_mul_right _ (by omega)
    rw [Nat.add_mul] at this
    omega
  have hp : pt (some ⟨b, 0, none⟩) sz kk j = ⟨b, kk * sz + j, none⟩ := by simp [pt, adr]
  rw [hp] at hx
  have hr := run_storeVar (P := P) (w := w) (t := t) (b := b) (o := kk * sz + j) (v := v) (vs := vs) hs hv hb (by simpa using hlt) (by simpa using h1)
  have e1 : (execOp a.eval ⟨none, .store t x y, ty, pos, af, none⟩).run P w = .ok .skip (w.setRow b (splice cs.toList (kk * sz + j) vs).toArray) := by
    simp [execOp, H.eval hx, H.eval hy, hr]
  rw [e1]
  refine hK _ _ (k _ _ (S.updSame hi ((setRow_keeps w b _).mono ?_) ?_ (fun _ h => h)) (H.put_none _))
  · rintro q rfl; exact ⟨_, rfl, rfl⟩
  · refine .inr ⟨b, _, rfl, setRow_heap w b _ _ e (0, 0) hb, hnc, hcm, ?_, ?_⟩
    · rw [List.size_toArray, splice_length _ _ _ (by simpa using hlt)]; simpa using hsz
    · intro k' j' hk' hj'
      have hcell := hc k' j' hk' hj'
      rw [List.getElem?_toArray, splice_get _ _ _ _ (by simpa using hlt)]
      unfold cputs
      by_cases hh : k' = kk ∧ j ≤ j' ∧ j' < j + vs.length
      · obtain ⟨rfl, h2, h3⟩ := hh
        rw [if_pos (by omega), if_pos ⟨rfl, h2, h3⟩]
        rw [show k' * sz + j' - (k' * sz + j) = j' - j by omega, List.getD_eq_getElem?_getD, List.getElem?_eq_getElem (by omega)]
        rfl
      · rw [if_neg hh, if_neg ?_]
        · simpa using hcell
        · intro hq
          by_cases h2 : k' = kk
          · subst h2; exact hh ⟨rfl, by omega, by omega⟩
          · rcases Nat.lt_or_gt_of_ne h2 with h3 | h3
            · have : (k' + 1) * sz ≤ kk * sz := Nat.mul_le_mul_right _ (by omega)
              rw [Nat.add_mul] at this
              omega
            · have : (kk + 1) * sz ≤ k' * sz := Nat.mul_le_mul_right _ (by omega)
              rw [Nat.add_mul] at this
              omega
end
end Go.Proofs.Ytlejjfhgfajoiaa
