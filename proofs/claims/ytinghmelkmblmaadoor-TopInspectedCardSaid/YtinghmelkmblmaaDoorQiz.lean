/- For every input the law TopInspected returns true, and its input reads as it did afterwards (a tied card: two tables of math/bits read as the program's text lays them); no other condition. -/
import Derived.Test.YtinghmelkmblmaaDoorQid
namespace Go.Proofs.YtinghmelkmblmaaDoor
open Go.RowKit
set_option linter.unusedVariables false
set_option linter.unusedSimpArgs false
set_option maxRecDepth 100000
set_option maxHeartbeats 4000000

open Go.ChangeShapes Go.WideShapes Go.ChangeAt Go.Deep Go.Joins
theorem db_of_laid {W : World} (h : laidMetH Tryd.prog [("math/bits.deBruijn32tab", Rows.laid_math_bits_deBruijn32tab), ("math/bits.deBruijn64tab", Rows.laid_math_bits_deBruijn64tab)] W) : InS W noF 1 (some ⟨1, 0, none⟩) 64 jL := by
  rw [MakeChecks.laidMetH_plain _ _ _ (by kernel_rfl)] at h
  have hT := Lib.tabIs_of_head (name := "math/bits.deBruijn64tab") (k := .u8) (zs := dbT) (g := 1) (t := 150) (e := 5) (n := 64) (by kernel_rfl) (by kernel_rfl) Tryd.underlying150 Tryd.underlying5 (by kernel_rfl) (by kernel_rfl) (laidMet.tail h)
  have hc : ∀ i, i < 64 → W.cell? ⟨1, i, none⟩ = some (.int .u8 (dbT.getD i 0)) := fun i hi => hT.cell (by kernel_rfl) i (by show i < dbT.length; exact hi)
  intro _
  refine ⟨1, 0, rfl, (wD (hc 0 (by decide))).2, fun h => h, fun k j hk hj => ?_⟩
  obtain rfl : j = 0 := by omega
  show W.cell? ⟨1, 0 + k * 1 + 0, none⟩ = _
  rw [show 0 + k * 1 + 0 = k by omega]
  exact hc k hk

def laidL : List (String × DataW Unit) := [("math/bits.deBruijn32tab", Rows.laid_math_bits_deBruijn32tab), ("math/bits.deBruijn64tab", Rows.laid_math_bits_deBruijn64tab)]
theorem door_met (os : Os) (args : Array Value) : laidMetH Tryd.prog laidL ((World.doorLaid Tryd.prog 19 os).forCall (fun _ _ => 0) ⟨#[], args, []⟩).memory :=
  laidMetH_of_parts3 (fuel := 8) (laidMet_of_run' 8 (by kernel_rfl) (by kernel_rfl)) (by kernel_rfl) (by kernel_rfl)
set_option maxRecDepth 100000 in
theorem topInspected_lifted (os : Os) (started : os.Started) (H : Type) (enc : TypeId × Value → H) :
    ReturnsInHanded {} Tryd.checked os 3 .any (fun w args => (Rows.topInspectedSpec.pre enc Tryd.prog Tryd.f3 [] false w args ∧ laidMetH Tryd.prog laidL w) ∧ sizedMet enc Tryd.prog Tryd.f3 (OpenSpec.ofChange Rows.topInspectedSpec) false w args) (Rows.topInspectedSpec.post enc Tryd.prog Tryd.f3 false true false false) := by
  refine returnsInHanded_of_change_and (C := Tryd.checked) (X := fun w _ => laidMetH Tryd.prog laidL w) (fun _ _ _ hh h => h.of_heap hh) Gx started (by kernel_rfl) Tryd.func3
    (ChangeSpec.witness_shaped (enc := enc) (C := Tryd.checked) (os := os) (X := fun w _ => laidMetH Tryd.prog laidL w) false (World.doorLaid Tryd.prog 19 os) #[.agg #[.int .i64 0, .slice none 0 0, .slice none 0 0], .agg #[.slice none 0 0, .slice none 0 0, .int .i64 0, .int .i64 0, .int .i64 0]] 8 rfl (World.shaped_of_RefB (by kernel_rfl) (by kernel_rfl)) (by kernel_rfl) (by kernel_rfl) (by kernel_rfl) (door_met os _)) ?_
  intro W base args ds gs before hval0 hW hcnd hsz0 hL _
  have hdb := db_of_laid hL
  have hsz : (DataW.weightsEach Tryd.prog (Tryd.f3.params.toList ++ Rows.topInspectedSpec.plain.varTypes Tryd.prog) (ds ++ gs)).all (· ≤ reachBytes) = true := hsz0
  have hval : ∀ (j : Nat) t v, Tryd.f3.params[j]? = some t → args[j]? = some v → Value.okWide Tryd.prog W .any base t v := hval0
  have hW' := hW
  obtain ⟨p, q, hA0, hV, rfl, hfz, hnd⟩ := hW
  have hA : DataW.TrodAll enc Tryd.prog W 0 (fun _ => true) true Tryd.f3.params.toList args.toList ds p := hA0
  rw [Tryd.params3] at hA hval hsz
  obtain ⟨v0, v1, d0, d1, p0, p1, rfl, rfl, rfl, h0, h1⟩ := trodAll_two hA
  obtain ⟨rfl, rfl⟩ := trodVars_none hV
  clear hA0 hval0 hA
  have z0 : Fits Tryd.prog 25 (Rows.uptoBulk d0) d0 := ⟨.inr fun n hn => by simpa using List.all_eq_true.1 hsz n (DataW.weights_mem_each (j := 0) G G n hn), Nat.le_refl _⟩
  obtain ⟨x0n0, x0l1, x0A1, x0c1, x0l2, x0A2, x0c2, rfl, x0f0, x0f1, x0f2, x0f3, x0f4, x0f5, x0f6⟩ := Oj (hval 0 _ v0 rfl rfl) h0 z0
  have z1 : Fits Tryd.prog 31 (Rows.uptoBulk d1) d1 := ⟨.inr fun n hn => by simpa using List.all_eq_true.1 hsz n (DataW.weights_mem_each (j := 1) G G n hn), Nat.le_refl _⟩
  obtain ⟨x1l0, x1A0, x1c0, x1l1, x1A1, x1c1, x1n2, x1n3, x1n4, rfl, x1f0, x1f1, x1f2, x1f3, x1f4, x1f5, x1f6⟩ := Ol (hval 1 _ v1 rfl rfl) h1 z1
  refine (mL x0n0 x0l1 x0A1 x0c1 x0l2 x0A2 x0c2 x1l0 x1A0 x1c0 x1l1 x1A1 x1c1 x1n2 x1n3 x1n4 W x0f0 (by omega) x0f3 (by omega) x0f6 x1f0 (by omega) x1f3 (by omega) x1f6 hdb).mono fun e W' he => ?_
  cases e with
  | returned v =>
    obtain ⟨rfl, S⟩ := he
    exact ⟨_, rfl, wC (pv := []) hW' (fun _ _ _ => trodAll_mk1 (shut_bool Tryd.underlying4 true)) (fun sp hsp => trodAll_mk2 (Go.WideElems.Trod_stays rH (by kernel_rfl) (of_decide_eq_true (by kernel_rfl)) h0 (fun p hp => S.sameAt p (hW'.lt p (by simp [hp]))) (fun p hp => hsp p (by simp [hp]))) (Go.WideElems.Trod_stays rH (by kernel_rfl) (of_decide_eq_true (by kernel_rfl)) h1 (fun p hp => S.sameAt p (hW'.lt p (by simp [hp]))) (fun p hp => hsp p (by simp [hp])))) (fun _ _ => rfl) (by simp) (S.kept _) (fun a ha => S.frozen a ha)
      (ok_one (by kernel_rfl) rfl (okWide_bool_mk Tryd.underlying4 _))⟩
  | panicked _ => exact he.elim
  | outgrown => exact he.elim
theorem topInspected_over : Rows.topInspectedRow.holds Tryd.pinned (OpenSpec.ofChange Rows.topInspectedSpec) :=
  OpenClaim.holds_of_wide 3 Tryd.f3 G G G G G G G ⟨rfl, rfl, rfl, rfl, rfl⟩ G G G G G (by kernel_rfl) Tryd.func3 (by kernel_rfl)
    (of_decide_eq_true (by kernel_rfl)) (by unfold Func.isWrapper; first | (rw [if_pos (by decide +kernel)]; kernel_rfl) | (rw [if_neg (by decide +kernel)]; exact ⟨rfl, rfl⟩))
    (fun os started H enc _ => topInspected_lifted os started H enc)
theorem topInspected_row : Rows.TopInspectedSaid := topInspected_over
theorem topInspectedCard_proved : Rows.TopInspectedCardSaid :=
  Claim7.holds_tied_plain_at .later [] [.data, .data] true Rows.topInspectedCard.stood.harness false
    topInspected_row (fun _ h => by cases h) (by kernel_rfl) (fun _ h => by cases h) topInspected_row_tie rfl ⟨rfl, rfl⟩ (by kernel_rfl) rfl
    (fun f fn hf hfn => by
      obtain rfl : f = 3 := Option.some.inj ((show Tryd.prog.funcNamed "newel/neweltop.TopInspected" = some 3 by kernel_rfl).symm.trans hf) |>.symm
      obtain rfl : fn = Tryd.f3 := (Option.some.inj (Tryd.func3.symm.trans hfn)).symm
      exact ⟨by kernel_rfl, fun j t ht => by
        rw [Tryd.params3] at ht
        have hm : t ∈ [25, 31] := by simpa using Array.mem_of_getElem? ht
        have hall : ([25, 31].all fun u => !Tryd.prog.wantsStandIn u) = true := by kernel_rfl
        exact (show Tryd.prog.wantsStandIn t = false by simpa using List.all_eq_true.1 hall t hm)⟩)
    (by kernel_rfl)

end Go.Proofs.YtinghmelkmblmaaDoor
