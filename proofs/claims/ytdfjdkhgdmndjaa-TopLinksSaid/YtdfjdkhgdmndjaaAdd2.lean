/- Stores of whole structs into owned slices; boxes said otherwise. -/
import Derived.Test.YtdfjdkhgdmndjaaPart
import Derived.Test.YtdfjdkhgdmndjaaTree
import Derived.Test.YtdfjdkhgdmndjaaAdd
namespace Go.Proofs.Ytdfjdkhgdmndjaa
set_option linter.unusedVariables false
set_option linter.unusedSimpArgs false
open Go.RowKit
section
variable {P : Program} {ops : Array Oper} {w w0 : World} {F0 F : Nat → Prop} {R : List Mem} {Q : Exit → Act → World → Prop} {rest : List Oper} {N : Nat} {L : List (Nat × Value)} {a : Act} {ty : TypeId} {pos : String} {af : Array Edge}
theorem boxM.same {i b : Nat} {t : TypeId} {cs cs' : List Value} (S : St w0 F0 R w) (hi : R[i]? = some (boxM b t cs)) (h : cs = cs') : St w0 F0 (R.set i (boxM b t cs')) w := by
  subst h; exact S.imp hi (fun h => h) (fun _ h => h)
theorem own_rd2 {i e n c k : Nat} {A : Option Addr} {f : Nat → Int × Int} {s : Int × Int} (S : St w0 F0 R w) (hi : R[i]? = some (ownM e 2 A n c (fcell f))) (hk : k < n) (hs : f k = s) :
    ∀ (j : Nat) v, [Value.int .i64 s.1, Value.int .i64 s.2][j]? = some v → w.cell? ⟨(adr A).block, (adr A).off + k * 2 + 0 + j, none⟩ = some v := by
  intro j v hv
  subst hs
  have h0 := ownM.rd S hi hk (j := j)
  have hj : j < 2 := (List.getElem?_eq_some_iff.1 hv).1
  have h1 := h0 hj
  have : j = 0 ∨ j = 1 := by omega
  rcases this with rfl | rfl <;> (simp at hv; subst hv; exact h1)
theorem list_store_own2 {t e i kk n c : Nat} {A : Option Addr} {f : Nat → Int × Int} {x y : Operand} {v1 v2 : Int} (H : Fr N L a) (S : St w0 F0 R w) (hi : R[i]? = some (ownM e 2 A n c (fcell f)))
    (hx : ev L x = some (.pointer (some (pt A 2 kk 0)))) (hy : ev L y = some (.agg [.int .i64 v1, .int .i64 v2].toArray)) (hk : kk < n) (hs : Sz P t 2)
    (k : ∀ w' a', St w0 F0 (R.set i (ownM e 2 A n c (fcell fun q => if q = kk then (v1, v2) else f q))) w' → Fr N L a' → wpList P ops Q rest a' w') :
    wpList P ops Q (⟨none, .store t x y, ty, pos, af, none⟩ :: rest) a w := by
  refine wpList_plain rfl fun K hK => ?_
  unfold Oper.wp
  rcases S.holds hi with ⟨_, h, _⟩ | ⟨b, cs, rfl, hb, hnc, hcm, hsz, hc⟩
  · omega
  have hlt : kk * 2 + 1 < cs.size := by omega
  have hp : pt (some ⟨b, 0, none⟩) 2 kk 0 = ⟨b, kk * 2, none⟩ := by simp [pt, adr]
  rw [hp] at hx
  have hr := run_storeVar (P := P) (w := w) (t := t) (b := b) (o := kk * 2) (v := .agg [.int .i64 v1, .int .i64 v2].toArray) (vs := [.int .i64 v1, .int .i64 v2]) (by simpa using hs) rfl hb (by simp; omega) (fun u hu => by
    simp only [List.mem_cons, List.not_mem_nil, or_false] at hu
    rcases hu with rfl | rfl <;> rfl)
  have e1 : (execOp a.eval ⟨none, .store t x y, ty, pos, af, none⟩).run P w = .ok .skip (w.setRow b (splice cs.toList (kk * 2) [.int .i64 v1, .int .i64 v2]).toArray) := by
    simp only [execOp, H.eval hx, H.eval hy]
    simp only [Sem.run_bind, hr]
    rfl
  rw [e1]
  refine hK _ _ (k _ _ (S.updSame hi ((setRow_keeps w b _).mono ?_) ?_ (fun _ h => h)) (H.put_none _))
  · rintro q rfl; exact ⟨_, rfl, rfl⟩
  · refine .inr ⟨b, _, rfl, setRow_heap w b _ _ e (0, 0) hb, hnc, hcm, ?_, ?_⟩
    · rw [List.size_toArray, splice_length _ _ _ (by simp; omega)]; simpa using hsz
    · intro k' j' hk' hj'
      rw [List.getElem?_toArray, splice_eq _ _ _ (by simp; omega)]
      have hj2 : j' = 0 ∨ j' = 1 := by omega
      by_cases hh : k' = kk
      · subst hh
        rw [List.append_assoc, List.getElem?_append_right (by simp; omega)]
        simp only [List.length_take, Array.length_toList, Nat.min_eq_left (show k' * 2 ≤ cs.size by omega)]
        rcases hj2 with rfl | rfl <;> simp [fcell, scellOf]
      · have hcell := hc k' j' hk' hj'
        have : fcell (fun q => if q = kk then (v1, v2) else f q) k' j' = fcell f k' j' := by simp [fcell, hh]
        rw [this, ← hcell]
        rcases Nat.lt_or_ge (k' * 2 + j') (kk * 2) with h | h
        · rw [List.append_assoc, List.getElem?_append_left (by simp; omega), List.getElem?_take_of_lt h]; simp
        · have h' : kk * 2 + 2 ≤ k' * 2 + j' := by omega
          rw [List.getElem?_append_right (by simp; omega), List.getElem?_drop]
          simp only [List.length_append, List.length_take, List.length_cons, List.length_nil, Array.length_toList]
          rw [Nat.min_eq_left (by omega)]
          rw [show kk * 2 + (0 + 1 + 1) + (k' * 2 + j' - (kk * 2 + (0 + 1 + 1))) = k' * 2 + j' by omega]
          simp
end

theorem fwd_meas {p : Part} {l : List Use} {k : Nat} (h : (l.getD k Use.zero).meas = true) : fwd p l (k + 1) = meetS (addS (fwd p l k) (grownS p (l.getD k Use.zero))) ((l.getD k Use.zero).lo, (l.getD k Use.zero).hi) := by rw [fwd, if_pos h]
theorem fwd_not {p : Part} {l : List Use} {k : Nat} (h : (l.getD k Use.zero).meas = false) : fwd p l (k + 1) = addS (fwd p l k) (grownS p (l.getD k Use.zero)) := by rw [fwd, if_neg (by rw [h]; simp)]
theorem fits_not {p : Part} {l : List Use} {k : Nat} (h : (l.getD k Use.zero).meas = false) : fits p l k := fun h' => by rw [h] at h'; cases h'
theorem wearAt_bd {p : Part} {l : List Use} (h : PartOk p l) {k : Nat} (hk : k < l.length) : -40000000000000 ≤ (wearAt p l k).1 ∧ (wearAt p l k).1 ≤ 40000000000000 ∧ -40000000000000 ≤ (wearAt p l k).2 ∧ (wearAt p l k).2 ≤ 40000000000000 := by
  have := bkw_bd h (l.length - 1 - k) (by omega)
  have := h.len
  unfold wearAt
  omega
theorem wearAt_last {p : Part} {l : List Use} {k : Nat} (hk : k + 1 = l.length) : wearAt p l k = fwd p l l.length := by
  unfold wearAt; rw [show l.length - 1 - k = 0 by omega]; rfl
theorem wearAt_step {p : Part} {l : List Use} {k : Nat} (hk : k + 1 < l.length) : wearAt p l k = meetS (fwd p l (k + 1)) ((wearAt p l (k + 1)).1 - (grownS p (l.getD (k + 1) Use.zero)).2, (wearAt p l (k + 1)).2 - (grownS p (l.getD (k + 1) Use.zero)).1) := by
  unfold wearAt
  rw [show l.length - 1 - k = (l.length - 1 - (k + 1)) + 1 by omega]
  rw [bkw]
  rw [show l.length - 1 - (l.length - 1 - (k + 1)) = k + 1 by omega]
end Go.Proofs.Ytdfjdkhgdmndjaa
