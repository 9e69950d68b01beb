/- Small operations that were met later. -/
import Derived.Test.YtlmddkekeoebcaaMat
namespace Go.Proofs.Ytlmddkekeoebcaa
set_option linter.unusedVariables false
set_option linter.unusedSimpArgs false
open Go.RowKit
section
variable {P : Program} {ops : Array Oper} {w w0 : World} {F0 F : Nat → Prop} {R : List Mem} {Q : Exit → Act → World → Prop} {rest : List Oper} {N : FN} {L : List (Nat × Value)} {a : Act} {ty : TypeId} {pos : String} {af : Array Edge}
/-- []T{}. -/
theorem list_build0 {d t e sz : Nat} (H : Fr N L a) (hd : Nat.blt d N.n = true) (S : St w0 F0 R w) (ht : SlT P t e) (hs : Sz P e sz) (cell : Nat → Nat → Value)
    (k : ∀ A w' a', St w0 F0 (ownM e sz A 0 0 cell :: R) w' → Fr N ((d, .slice A 0 0) :: L) a' → wpList P ops Q rest a' w') :
    wpList P ops Q (⟨some d, .buildSlice t 0 #[], ty, pos, af, none⟩ :: rest) a w := by
  refine wpList_plain rfl fun K hK => ?_
  unfold Oper.wp
  have hz : ∀ f : Nat → Value, Array.map f (Array.range 0) = #[] := fun f => by
    apply Array.ext
    · simp
    · intro i h1 h2; simp at h2
  have e1 : (execOp a.eval ⟨some d, .buildSlice t 0 #[], ty, pos, af, none⟩).run P w = .ok (.value (.slice (some ⟨w.heap.size, 0, none⟩) 0 0)) (w.alloc (.cells #[] e)) := by
    have : (Instr.buildSlice t 0 #[]).run P w = .ok (.slice (some ⟨w.heap.size, 0, none⟩) 0 0) (w.alloc (.cells #[] e)) := by
      simp [Instr.buildSlice, run_und ht, hs.run, newRow, newObj, Sem.run, Instr.fill]
      rw [hz]
    simp [execOp, this]
  rw [e1]
  refine hK _ _ (k (some ⟨w.heap.size, 0, none⟩) _ _ (S.alloc _ _ (.inr ⟨w.heap.size, #[], rfl, heap_alloc_new w _, Nat.le_refl _, by simp only [maxLen]; omega, by simp, fun k' j' hk' => by omega⟩) ?_) (H.put _ hd))
  rintro q ⟨_, h, rfl⟩; cases h; rfl
end
end Go.Proofs.Ytlmddkekeoebcaa
