/- What a method that changes its receiver asks of the memory. -/
import Derived.Test.YtlmddkekeoebcaaMat
namespace Go.Proofs.Ytlmddkekeoebcaa
set_option linter.unusedVariables false
set_option linter.unusedSimpArgs false
section
variable {w0 w w' : World} {F0 F : Nat → Prop} {R M : List Mem} {sz n c : Nat} {A : Option Addr} {cell : Nat → Nat → Value} {e : TypeId}
/-- A slice that is only read stays so while a callee changes what is owned. -/
theorem InS.nowR (h : InS w0 F0 sz A n cell) (S : St w0 F0 R w) : InS w (fps R) sz A n cell := by
  intro hn
  obtain ⟨b, o, rfl, hb, hF, hc⟩ := h hn
  refine ⟨b, o, rfl, Nat.lt_of_lt_of_le hb S.size, fun ⟨m, hm, hk⟩ => hF ((S.inn m hm b hk).2 hb), fun k j hk hj => ?_⟩
  rw [← hc k j hk hj]
  exact World.cell?_of_block (w := w0) (S.ro b hb hF)
end
section
open Go.RowKit
variable {P : Program} {w : World} {N : FN} {L : List (Nat × Value)} {a : Act}
theorem retAA1 {fn : Func} {R : Value → World → Prop} {t ty b o t' ty' b' o' u : Nat} {vs vs' : List Value} {v : Value} (hr : fn.results = #[.cell t ty, .cell t' ty', .tmp u]) {q_ : Nat} (H : Fr ⟨q_, []⟩ L a) (ht : look L t = some (.pointer (some ⟨b, o, none⟩))) (ht' : look L t' = some (.pointer (some ⟨b', o', none⟩)))
    (hA : Agg P ty) (hs : Sz P ty vs.length) (hc : ∀ (j : Nat) v, vs[j]? = some v → w.cell? ⟨b, o + j, none⟩ = some v) (hA' : Agg P ty') (hs' : Sz P ty' vs'.length) (hc' : ∀ (j : Nat) v, vs'[j]? = some v → w.cell? ⟨b', o' + j, none⟩ = some v) (hu : look L u = some v) (h : R (.tuple #[.agg vs.toArray, .agg vs'.toArray, v]) w) : bodyPost P fn (Ret R) .ret a w := by
  have hl := run_loadAgg (P := P) hA hs hc
  simp only [Instr.loadAt, Instr.sureAddr] at hl
  have hl2 := run_loadAgg (P := P) hA' hs' hc'
  simp only [Instr.loadAt, Instr.sureAddr] at hl2
  refine bodyPost_ret (v := .tuple #[.agg vs.toArray, .agg vs'.toArray, v]) ?_ H.defs h
  have hl' : (loadVar ty ⟨b, o, none⟩).run P w = .ok (.agg vs.toArray) w := by simpa using hl
  have hl2' : (loadVar ty' ⟨b', o', none⟩).run P w = .ok (.agg vs'.toArray) w := by simpa using hl2
  simp [results, hr, H.at_ _ _ ht, H.at_ _ _ ht', H.at_ _ _ hu, asAddr, hl', hl2']
end
end Go.Proofs.Ytlmddkekeoebcaa
