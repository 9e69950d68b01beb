/- For every input the law TopRelieved returns true, and its input reads as it did afterwards; no condition. -/
import Derived.Test.YtinghmelkmblmaaGreatQve
namespace Go.Proofs.YtinghmelkmblmaaGreat
open Go.RowKit
set_option linter.unusedVariables false
set_option linter.unusedSimpArgs false
set_option maxRecDepth 100000
set_option maxHeartbeats 4000000

open Go.ChangeShapes Go.WideShapes Go.ChangeAt Go.Deep Go.Joins
set_option maxRecDepth 100000 in
theorem topRelieved_lifted (os : Os) (started : os.Started) (H : Type) (enc : TypeId × Value → H) :
    ReturnsInHanded {} Tryz.checked os 4 .any (Rows.topRelievedSpec.pre6 enc Tryz.prog Tryz.f4 Rows.topRelievedRow.domain false) (Rows.topRelievedSpec.post enc Tryz.prog Tryz.f4 false true false false) := by
  refine returnsInHanded_of_change_sized (C := Tryz.checked) Oi started (by kernel_rfl) Tryz.func4
    (ChangeSpec.witness6 (enc := enc) (C := Tryz.checked) false ⟨#[], #[.agg #[.int .i64 0, .int .i64 0, .slice none 0 0, .slice none 0 0, .slice none 0 0, .int .i64 0, .bool false, .slice none 0 0, .slice none 0 0, .int .i64 0, .slice none 0 0], .slice none 0 0, .agg #[.slice none 0 0, .slice none 0 0, .int .i64 0]], []⟩ 8 (by kernel_rfl) (by kernel_rfl) (by kernel_rfl) (by kernel_rfl)) ?_
  intro W base args ds gs before hval0 hW hcnd hsz0 _
  have hsz : (DataW.weightsEach Tryz.prog (Tryz.f4.params.toList ++ Rows.topRelievedSpec.plain.varTypes Tryz.prog) (ds ++ gs)).all (· ≤ reachBytes) = true := hsz0
  have hval : ∀ (j : Nat) t v, Tryz.f4.params[j]? = some t → args[j]? = some v → Value.okWide Tryz.prog W .any base t v := hval0
  have hW' := hW
  obtain ⟨p, q, hA0, hV, rfl, hfz, hnd⟩ := hW
  have hA : DataW.TrodAll enc Tryz.prog W 0 (fun _ => true) true Tryz.f4.params.toList args.toList ds p := hA0
  rw [Tryz.params4] at hA hval hsz
  obtain ⟨v0, v1, v2, d0, d1, d2, p0, p1, p2, rfl, rfl, rfl, h0, h1, h2⟩ := trodAll_three hA
  obtain ⟨rfl, rfl⟩ := trodVars_none hV
  clear hA0 hval0 hA
  have z0 : Fits Tryz.prog 43 (Rows.uptoBulk d0) d0 := ⟨.inr fun n hn => by simpa using List.all_eq_true.1 hsz n (DataW.weights_mem_each (j := 0) G G n hn), Nat.le_refl _⟩
  obtain ⟨x0n0, x0n1, x0l2, x0A2, x0c2, x0l3, x0A3, x0c3, x0l4, x0A4, x0c4, x0n5, x0b6, x0l7, x0A7, x0c7, x0l8, x0A8, x0c8, x0n9, x0l10, x0A10, x0c10, rfl, x0f0, x0f1, x0f2, x0f3, x0f4, x0f5, x0f6, x0f7, x0f8, x0f9, x0f10, x0f11, x0f12, x0f13, x0f14, x0f15, x0f16, x0f17, x0f18, x0f19, x0f20, x0f21, x0f22, x0f23, x0f24⟩ := Yk (hval 0 _ v0 rfl rfl) h0 z0
  have z1 : Fits Tryz.prog 44 (Rows.uptoBulk d1) d1 := ⟨.inr fun n hn => by simpa using List.all_eq_true.1 hsz n (DataW.weights_mem_each (j := 1) G G n hn), Nat.le_refl _⟩
  obtain ⟨x1l0, x1A0, x1c0, rfl, x1f0, x1f1, x1f2, x1f3⟩ := Yl (hval 1 _ v1 rfl rfl) h1 z1
  have z2 : Fits Tryz.prog 63 (Rows.uptoBulk d2) d2 := ⟨.inr fun n hn => by simpa using List.all_eq_true.1 hsz n (DataW.weights_mem_each (j := 2) G G n hn), Nat.le_refl _⟩
  obtain ⟨x2l0, x2A0, x2c0, x2l1, x2A1, x2c1, x2n2, rfl, x2f0, x2f1, x2f2, x2f3, x2f4, x2f5, x2f6, x2f7⟩ := Ym (hval 2 _ v2 rfl rfl) h2 z2
  refine (qZ x0n0 x0n1 x0l2 x0A2 x0c2 x0l3 x0A3 x0c3 x0l4 x0A4 x0c4 x0n5 x0b6 x0l7 x0A7 x0c7 x0l8 x0A8 x0c8 x0n9 x0l10 x0A10 x0c10 x1l0 x1A0 x1c0 x2l0 x2A0 x2c0 x2l1 x2A1 x2c1 x2n2 W x0f0 (by omega) x0f3 x0f4 (by omega) x0f7 x0f8 (by omega) x0f11 x0f12 (by omega) x0f15 x0f16 (by omega) x0f19 x0f20 x0f21 (by omega) x0f24 x1f0 (by omega) x1f3 x2f0 (by omega) x2f3 x2f4 (by omega) x2f7 ).mono fun e W' he => ?_
  cases e with
  | returned v =>
    obtain ⟨rfl, S⟩ := he
    exact ⟨_, rfl, Ax (pv := []) hW' (fun _ _ _ => trodAll_mk1 (shut_bool Tryz.underlying4 true)) (fun sp hsp => trodAll_mk3 (Go.WideElems.Trod_stays qI (by kernel_rfl) (of_decide_eq_true (by kernel_rfl)) h0 (fun p hp => S.sameAt p (hW'.lt p (by simp [hp]))) (fun p hp => hsp p (by simp [hp]))) (Go.WideElems.Trod_stays qI (by kernel_rfl) (of_decide_eq_true (by kernel_rfl)) h1 (fun p hp => S.sameAt p (hW'.lt p (by simp [hp]))) (fun p hp => hsp p (by simp [hp]))) (Go.WideElems.Trod_stays qI (by kernel_rfl) (of_decide_eq_true (by kernel_rfl)) h2 (fun p hp => S.sameAt p (hW'.lt p (by simp [hp]))) (fun p hp => hsp p (by simp [hp])))) (fun _ _ => rfl) (by simp) (S.kept _) (fun a ha => S.frozen a ha)
      (ok_one (by kernel_rfl) rfl (okWide_bool_mk Tryz.underlying4 _))⟩
  | panicked _ => exact he.elim
  | outgrown => exact he.elim
theorem topRelieved_over : Rows.topRelievedRow.holds Tryz.pinned (OpenSpec.ofChange Rows.topRelievedSpec) :=
  OpenClaim.holds_of_wide 4 Tryz.f4 G G G G G G G ⟨rfl, rfl, rfl, rfl, rfl⟩ G G G G G (by kernel_rfl) Tryz.func4 (by kernel_rfl)
    (of_decide_eq_true (by kernel_rfl)) (by unfold Func.isWrapper; first | (rw [if_pos (by decide +kernel)]; kernel_rfl) | (rw [if_neg (by decide +kernel)]; exact ⟨rfl, rfl⟩))
    (fun os started H enc _ => topRelieved_lifted os started H enc)
theorem topRelieved_proved : Rows.TopRelievedSaid := topRelieved_over

end Go.Proofs.YtinghmelkmblmaaGreat
