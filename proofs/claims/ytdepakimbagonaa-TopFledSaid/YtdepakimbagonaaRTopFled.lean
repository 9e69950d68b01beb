/- For every input the law TopFled returns true, and its input reads as it did afterwards; no condition. -/
import Derived.Test.YtdepakimbagonaaFlA
import Derived.Test.YtdepakimbagonaaRw
import Derived.Test.YtdepakimbagonaaRows
namespace Go.Proofs.Ytdepakimbagonaa
open Go.RowKit
set_option linter.unusedVariables false
set_option linter.unusedSimpArgs false
set_option maxRecDepth 100000
set_option maxHeartbeats 4000000

open Go.ChangeShapes Go.WideShapes Go.ChangeAt Go.Deep Go.Joins
set_option maxRecDepth 100000 in
theorem topFled_lifted (os : Os) (started : os.Started) (H : Type) (enc : TypeId × Value → H) :
    ReturnsInHanded {} Try.checked os 4 .any (Rows.topFledSpec.pre6 enc Try.prog Try.f4 Rows.topFledRow.domain false) (Rows.topFledSpec.post enc Try.prog Try.f4 false true false false) := by
  refine returnsInHanded_of_change_sized (C := Try.checked) seat_own started (by kernel_rfl) Try.func4
    (ChangeSpec.witness6 (enc := enc) (C := Try.checked) false ⟨#[], #[.agg #[.int .i64 0, .slice none 0 0, .slice none 0 0], .agg #[.int .i64 0, .slice none 0 0, .int .i64 0, .int .i64 0, .bool false, .int .i64 0, .int .i64 0, .int .i64 0, .int .i64 0, .int .i64 0, .slice none 0 0, .int .i64 0, .int .i64 0, .int .i64 0]], []⟩ 8 (by kernel_rfl) (by kernel_rfl) (by kernel_rfl) (by kernel_rfl)) ?_
  intro W base args ds gs before hval0 hW hcnd hsz0 _
  have hsz : (DataW.weightsEach Try.prog (Try.f4.params.toList ++ Rows.topFledSpec.plain.varTypes Try.prog) (ds ++ gs)).all (· ≤ reachBytes) = true := hsz0
  have hval : ∀ (j : Nat) t v, Try.f4.params[j]? = some t → args[j]? = some v → Value.okWide Try.prog W .any base t v := hval0
  have hW' := hW
  obtain ⟨p, q, hA0, hV, rfl, hfz, hnd⟩ := hW
  have hA : DataW.TrodAll enc Try.prog W 0 (fun _ => true) true Try.f4.params.toList args.toList ds p := hA0
  rw [Try.params4] at hA hval hsz
  obtain ⟨v0, v1, d0, d1, p0, p1, rfl, rfl, rfl, h0, h1⟩ := trodAll_two hA
  obtain ⟨rfl, rfl⟩ := trodVars_none hV
  clear hA0 hval0 hA
  have z0 : Fits Try.prog 49 (Rows.uptoBulk d0) d0 := ⟨.inr fun n hn => by simpa using List.all_eq_true.1 hsz n (DataW.weights_mem_each (j := 0) rfl rfl n hn), Nat.le_refl _⟩
  obtain ⟨x0n0, x0l1, x0A1, x0c1, x0l2, x0A2, x0c2, rfl, x0f0, x0f1, x0f2, x0f3, x0f4, x0f5⟩ := par_49 (hval 0 _ v0 rfl rfl) h0 z0
  have z1 : Fits Try.prog 55 (Rows.uptoBulk d1) d1 := ⟨.inr fun n hn => by simpa using List.all_eq_true.1 hsz n (DataW.weights_mem_each (j := 1) rfl rfl n hn), Nat.le_refl _⟩
  obtain ⟨x1n0, x1l1, x1A1, x1c1, x1n2, x1n3, x1b4, x1n5, x1n6, x1n7, x1n8, x1n9, x1l10, x1A10, x1c10, x1n11, x1n12, x1n13, rfl, x1f0, x1f1, x1f2, x1f3, x1f4, x1f5⟩ := par_55 (hval 1 _ v1 rfl rfl) h1 z1
  refine (law_TopFled x0n0 x0l1 x0A1 x0c1 x0l2 x0A2 x0c2 x1n0 x1l1 x1A1 x1c1 x1n2 x1n3 x1b4 x1n5 x1n6 x1n7 x1n8 x1n9 x1l10 x1A10 x1c10 x1n11 x1n12 x1n13 W x0f0 (by omega) x0f3 (by omega) x1f0 (by omega) x1f3 (by omega) ).mono fun e W' he => ?_
  cases e with
  | returned v =>
    obtain ⟨rfl, S⟩ := he
    exact ⟨_, rfl, post_of_old (pv := []) hW' (fun _ _ _ => trodAll_mk1 (shut_bool Try.underlying4 true)) (fun sp hsp => trodAll_mk2 (Go.WideElems.Trod_stays seat_laid (by kernel_rfl) (of_decide_eq_true (by kernel_rfl)) h0 (fun p hp => S.sameAt p (hW'.lt p (by simp [hp]))) (fun p hp => hsp p (by simp [hp]))) (Go.WideElems.Trod_stays seat_laid (by kernel_rfl) (of_decide_eq_true (by kernel_rfl)) h1 (fun p hp => S.sameAt p (hW'.lt p (by simp [hp]))) (fun p hp => hsp p (by simp [hp])))) (fun _ _ => rfl) (by simp) (S.kept _) (fun a ha => S.frozen a ha)
      (ok_one (by kernel_rfl) rfl (okWide_bool_mk Try.underlying4 _))⟩
  | panicked _ => exact he.elim
  | outgrown => exact he.elim
theorem topFled_over : Rows.topFledRow.holds Try.pinned (OpenSpec.ofChange Rows.topFledSpec) :=
  OpenClaim.holds_of_wide 4 Try.f4 rfl rfl rfl rfl rfl rfl rfl ⟨rfl, rfl, rfl, rfl, rfl⟩ rfl rfl rfl rfl rfl (by kernel_rfl) Try.func4 (by kernel_rfl)
    (of_decide_eq_true (by kernel_rfl)) (by unfold Func.isWrapper; first | (rw [if_pos (by decide +kernel)]; kernel_rfl) | (rw [if_neg (by decide +kernel)]; exact ⟨rfl, rfl⟩))
    (fun os started H enc _ => topFled_lifted os started H enc)
theorem topFled_proved : Rows.TopFledSaid := topFled_over

end Go.Proofs.Ytdepakimbagonaa
