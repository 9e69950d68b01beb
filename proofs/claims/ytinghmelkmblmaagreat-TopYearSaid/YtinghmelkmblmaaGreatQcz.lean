/- For every input the law TopYear returns true, and its input reads as it did afterwards; no condition. -/
import Derived.Test.YtinghmelkmblmaaGreatQcf
namespace Go.Proofs.YtinghmelkmblmaaGreat
open Go.RowKit
set_option linter.unusedVariables false
set_option linter.unusedSimpArgs false
set_option maxRecDepth 100000
set_option maxHeartbeats 4000000

open Go.ChangeShapes Go.WideShapes Go.ChangeAt Go.Deep Go.Joins
set_option maxRecDepth 100000 in
theorem topYear_lifted (os : Os) (started : os.Started) (H : Type) (enc : TypeId × Value → H) :
    ReturnsInHanded {} Tryz.checked os 6 .any (Rows.topYearSpec.pre6 enc Tryz.prog Tryz.f6 Rows.topYearRow.domain false) (Rows.topYearSpec.post enc Tryz.prog Tryz.f6 false true false false) := by
  refine returnsInHanded_of_change_sized (C := Tryz.checked) Ty started (by kernel_rfl) Tryz.func6
    (ChangeSpec.witness6 (enc := enc) (C := Tryz.checked) false ⟨#[], #[.agg #[.int .i64 0, .slice none 0 0, .slice none 0 0], .agg #[.int .i64 0, .slice none 0 0, .slice none 0 0, .int .i64 0, .int .i64 0], .agg #[.slice none 0 0, .bool false, .int .i64 0, .slice none 0 0]], []⟩ 8 (by kernel_rfl) (by kernel_rfl) (by kernel_rfl) (by kernel_rfl)) ?_
  intro W base args ds gs before hval0 hW hcnd hsz0 _
  have hsz : (DataW.weightsEach Tryz.prog (Tryz.f6.params.toList ++ Rows.topYearSpec.plain.varTypes Tryz.prog) (ds ++ gs)).all (· ≤ reachBytes) = true := hsz0
  have hval : ∀ (j : Nat) t v, Tryz.f6.params[j]? = some t → args[j]? = some v → Value.okWide Tryz.prog W .any base t v := hval0
  have hW' := hW
  obtain ⟨p, q, hA0, hV, rfl, hfz, hnd⟩ := hW
  have hA : DataW.TrodAll enc Tryz.prog W 0 (fun _ => true) true Tryz.f6.params.toList args.toList ds p := hA0
  rw [Tryz.params6] at hA hval hsz
  obtain ⟨v0, v1, v2, d0, d1, d2, p0, p1, p2, rfl, rfl, rfl, h0, h1, h2⟩ := trodAll_three hA
  obtain ⟨rfl, rfl⟩ := trodVars_none hV
  clear hA0 hval0 hA
  have z0 : Fits Tryz.prog 25 (Rows.uptoBulk d0) d0 := ⟨.inr fun n hn => by simpa using List.all_eq_true.1 hsz n (DataW.weights_mem_each (j := 0) G G n hn), Nat.le_refl _⟩
  obtain ⟨x0n0, x0l1, x0A1, x0c1, x0l2, x0A2, x0c2, rfl, x0f0, x0f1, x0f2, x0f3, x0f4, x0f5⟩ := aCy (hval 0 _ v0 rfl rfl) h0 z0
  have z1 : Fits Tryz.prog 28 (Rows.uptoBulk d1) d1 := ⟨.inr fun n hn => by simpa using List.all_eq_true.1 hsz n (DataW.weights_mem_each (j := 1) G G n hn), Nat.le_refl _⟩
  obtain ⟨x1n0, x1l1, x1A1, x1c1, x1l2, x1A2, x1c2, x1n3, x1n4, rfl, x1f0, x1f1, x1f2, x1f3, x1f4, x1f5, x1f6⟩ := aCz (hval 1 _ v1 rfl rfl) h1 z1
  have z2 : Fits Tryz.prog 33 (Rows.uptoBulk d2) d2 := ⟨.inr fun n hn => by simpa using List.all_eq_true.1 hsz n (DataW.weights_mem_each (j := 2) G G n hn), Nat.le_refl _⟩
  obtain ⟨x2l0, x2A0, x2c0, x2b1, x2n2, x2l3, x2A3, x2c3, rfl, x2f0, x2f1, x2f2, x2f3, x2f4, x2f5⟩ := aDa (hval 2 _ v2 rfl rfl) h2 z2
  refine (Em x0n0 x0l1 x0A1 x0c1 x0l2 x0A2 x0c2 x1n0 x1l1 x1A1 x1c1 x1l2 x1A2 x1c2 x1n3 x1n4 x2l0 x2A0 x2c0 x2b1 x2n2 x2l3 x2A3 x2c3 W x0f0 (by omega) x0f3 (by omega) x1f0 (by omega) x1f3 x1f4 (by omega) x2f0 (by omega) x2f3 (by omega) ).mono fun e W' he => ?_
  cases e with
  | returned v =>
    obtain ⟨rfl, S⟩ := he
    exact ⟨_, rfl, En (pv := []) hW' (fun _ _ _ => trodAll_mk1 (shut_bool Tryz.underlying4 true)) (fun sp hsp => trodAll_mk3 (Go.WideElems.Trod_stays sN (by kernel_rfl) (of_decide_eq_true (by kernel_rfl)) h0 (fun p hp => S.sameAt p (hW'.lt p (by simp [hp]))) (fun p hp => hsp p (by simp [hp]))) (Go.WideElems.Trod_stays sN (by kernel_rfl) (of_decide_eq_true (by kernel_rfl)) h1 (fun p hp => S.sameAt p (hW'.lt p (by simp [hp]))) (fun p hp => hsp p (by simp [hp]))) (Go.WideElems.Trod_stays sN (by kernel_rfl) (of_decide_eq_true (by kernel_rfl)) h2 (fun p hp => S.sameAt p (hW'.lt p (by simp [hp]))) (fun p hp => hsp p (by simp [hp])))) (fun _ _ => rfl) (by simp) (S.kept _) (fun a ha => S.frozen a ha)
      (ok_one (by kernel_rfl) rfl (okWide_bool_mk Tryz.underlying4 _))⟩
  | panicked _ => exact he.elim
  | outgrown => exact he.elim
theorem topYear_over : Rows.topYearRow.holds Tryz.pinned (OpenSpec.ofChange Rows.topYearSpec) :=
  OpenClaim.holds_of_wide 6 Tryz.f6 G G G G G G G ⟨rfl, rfl, rfl, rfl, rfl⟩ G G G G G (by kernel_rfl) Tryz.func6 (by kernel_rfl)
    (of_decide_eq_true (by kernel_rfl)) (by unfold Func.isWrapper; first | (rw [if_pos (by decide +kernel)]; kernel_rfl) | (rw [if_neg (by decide +kernel)]; exact ⟨rfl, rfl⟩))
    (fun os started H enc _ => topYear_lifted os started H enc)
theorem topYear_proved : Rows.TopYearSaid := topYear_over

end Go.Proofs.YtinghmelkmblmaaGreat
