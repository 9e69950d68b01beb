/- For every input of bulk at most 1048576 the law ChainFuture returns true, and its input reads as it did afterwards; no other condition. -/
import Derived.Test.YtlejjfhgfajoiaaChFu
import Derived.Test.YtlejjfhgfajoiaaRw
import Derived.Test.YtlejjfhgfajoiaaRows
namespace Go.Proofs.Ytlejjfhgfajoiaa
open Go.RowKit
set_option linter.unusedVariables false
set_option linter.unusedSimpArgs false

open Go.ChangeShapes Go.WideShapes Go.ChangeAt Go.Deep Go.Joins
set_option maxRecDepth 100000 in
theorem chainFuture_lifted (os : Os) (started : os.Started) (H : Type) (enc : TypeId × Value → H) (F : Stop.Interp) :
    ReturnsInHanded {} Try.checked os 15 .any ((Rows.OpenSpec.upto Rows.chainFutureSpec).pre6 enc Try.prog Try.f15 Rows.chainFutureUptoRow.domain false) (((Rows.OpenSpec.upto Rows.chainFutureSpec).at F).post enc Try.prog Try.f15 false true false false) := by
  refine returnsInHanded_of_cond (C := Try.checked) (s := Rows.OpenSpec.upto Rows.chainFutureSpec) (k := Rows.uptoSmall) rfl seat_own started (by kernel_rfl) Try.func15
    (OpenSpec.witness (enc := enc) (C := Try.checked) (s := Rows.OpenSpec.upto Rows.chainFutureSpec) (k := Rows.uptoSmall) rfl false ⟨#[], #[.agg #[.slice none 0 0, .int .i64 0, .int .i64 0, .int .i64 0], .slice none 0 0, .agg #[.slice none 0 0, .slice none 0 0]], []⟩ 8 (by kernel_rfl) (by kernel_rfl) (by kernel_rfl)
      (x := ([.agg [.nil, .lit (.int .i64 0), .lit (.int .i64 0), .lit (.int .i64 0)], .nil, .agg [.nil, .nil]], [], [])) (by kernel_rfl) (by kernel_rfl) (by kernel_rfl)) ?_
  intro W base args ds gs before hval0 hW hcnd hsz0 _
  have hbk : Rows.uptoBulkAll (ds ++ gs) ≤ 1048576 := of_decide_eq_true hsz0
  have hval : ∀ (j : Nat) t v, Try.f15.params[j]? = some t → args[j]? = some v → Value.okWide Try.prog W .any base t v := hval0
  have hW' := hW
  obtain ⟨p, q, hA0, hV, rfl, hfz, hnd⟩ := hW
  have hA : DataW.TrodAll enc Try.prog W 0 (fun _ => true) true Try.f15.params.toList args.toList ds p := hA0
  rw [Try.params15] at hA hval
  obtain ⟨v0, v1, v2, d0, d1, d2, p0, p1, p2, rfl, rfl, rfl, h0, h1, h2⟩ := trodAll_three hA
  obtain ⟨rfl, rfl⟩ := trodVars_none hV
  clear hA0 hval0 hA
  simp only [List.append_nil, Rows.uptoBulkAll] at hbk
  have z0 : Fits Try.prog 62 1048576 d0 := ⟨.inl (Nat.le_refl _), by omega⟩
  obtain ⟨x0l0, x0A0, x0c0, x0n1, x0n2, x0n3, rfl, x0f0, x0f1, x0f2⟩ := par_62 (hval 0 _ v0 rfl rfl) h0 z0
  have z1 : Fits Try.prog 63 1048576 d1 := ⟨.inl (Nat.le_refl _), by omega⟩
  obtain ⟨x1l0, x1A0, x1c0, rfl, x1f0, x1f1, x1f2⟩ := par_63 (hval 1 _ v1 rfl rfl) h1 z1
  have z2 : Fits Try.prog 87 1048576 d2 := ⟨.inl (Nat.le_refl _), by omega⟩
  obtain ⟨x2l0, x2A0, x2c0, x2l1, x2A1, x2c1, rfl, x2f0, x2f1, x2f2, x2f3, x2f4, x2f5⟩ := par_87 (hval 2 _ v2 rfl rfl) h2 z2
  refine (law_ChainFuture x0l0 x0A0 x0c0 x0n1 x0n2 x0n3 x1l0 x1A0 x1c0 x2l0 x2A0 x2c0 x2l1 x2A1 x2c1 W x0f0 (by omega) x1f0 (by omega) x2f0 (by omega) x2f3 (by omega) (by omega)).mono fun e W' he => ?_
  cases e with
  | returned v =>
    obtain ⟨rfl, S⟩ := he
    exact ⟨_, rfl, post_of_old (pv := []) hW' (fun _ _ _ => trodAll_mk1 (shut_bool Try.underlying4 true)) (fun sp hsp => trodAll_mk3 (Go.WideElems.Trod_stays seat_laid (by kernel_rfl) (of_decide_eq_true (by kernel_rfl)) h0 (fun p hp => S.sameAt p (hW'.lt p (by simp [hp]))) (fun p hp => hsp p (by simp [hp]))) (Go.WideElems.Trod_stays seat_laid (by kernel_rfl) (of_decide_eq_true (by kernel_rfl)) h1 (fun p hp => S.sameAt p (hW'.lt p (by simp [hp]))) (fun p hp => hsp p (by simp [hp]))) (Go.WideElems.Trod_stays seat_laid (by kernel_rfl) (of_decide_eq_true (by kernel_rfl)) h2 (fun p hp => S.sameAt p (hW'.lt p (by simp [hp]))) (fun p hp => hsp p (by simp [hp])))) (fun _ _ => rfl) (by simp) (S.kept _) (fun a ha => S.frozen a ha)
      (ok_one (by kernel_rfl) rfl (okWide_bool_mk Try.underlying4 _))⟩
  | panicked _ => exact he.elim
  | outgrown => exact he.elim
theorem chainFuture_over : Rows.chainFutureUptoRow.holds Try.pinned (Rows.OpenSpec.upto Rows.chainFutureSpec) :=
  OpenClaim.holds_of_cond 15 Try.f15 rfl rfl rfl rfl rfl rfl rfl ⟨rfl, rfl, rfl, rfl, rfl⟩ rfl rfl rfl rfl rfl (by kernel_rfl) Try.func15 (by kernel_rfl)
    (of_decide_eq_true (by kernel_rfl)) (by unfold Func.isWrapper; first | (rw [if_pos (by decide +kernel)]; kernel_rfl) | (rw [if_neg (by decide +kernel)]; exact ⟨rfl, rfl⟩))
    (fun os started H enc _ F => chainFuture_lifted os started H enc F)
theorem chainFuture_proved : Rows.ChainFutureUptoSaid := chainFuture_over

end Go.Proofs.Ytlejjfhgfajoiaa
