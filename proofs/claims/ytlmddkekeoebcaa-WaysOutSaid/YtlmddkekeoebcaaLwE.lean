/- LwE. Printed by gen.py. -/
import Derived.Test.YtlmddkekeoebcaaRfD
import Derived.Test.YtlmddkekeoebcaaRwW
namespace Go.Proofs.Ytlmddkekeoebcaa
open Go.RowKit
set_option linter.unusedVariables false
set_option linter.unusedSimpArgs false
set_option maxRecDepth 100000
set_option maxHeartbeats 4000000


def clrN (n : Nat) : Int × Int := if n < 61 then ((n : Int), 0) else (0, 3)
theorem clearV_N (n : Nat) : clearV n = .tuple #[.int .i64 (clrN n).1, .int .i64 (clrN n).2] := by
  unfold clearV clrN
  split <;> rfl
noncomputable def clrP (pl : Int) (ps : List Psg) (xs : List Int) (out : Int) (pe : List Int) : Int × Int :=
  if leaveE pl ps xs out pe 0 ≠ 0 then (0, leaveE pl ps xs out pe 0) else clrN (fstB (fun t => decide (mfv pl.toNat t pe xs (hds out xs ps) = sumI pe pe.length)) 61)
theorem clear_form {pl : Int} {ps : List Psg} {xs : List Int} {out : Int} {pe : List Int} {w : World} {u : Value} {w' : World} (h : (fun u w' => (leaveE pl ps xs out pe 0 ≠ 0 ∧ u = .tuple #[.int .i64 0, .int .i64 (leaveE pl ps xs out pe 0)] ∧ St w noF [] w') ∨ (leaveE pl ps xs out pe 0 = 0 ∧ u = clearV (fstB (fun t => decide (mfv pl.toNat t pe xs (hds out xs ps) = sumI pe pe.length)) 61) ∧ St w noF [] w')) u w') : (fun u w' => u = .tuple #[.int .i64 (clrP pl ps xs out pe).1, .int .i64 (clrP pl ps xs out pe).2] ∧ St w noF [] w') u w' := by
  rcases h with ⟨h0, hu, S⟩ | ⟨h0, hu, S⟩
  · unfold clrP; rw [if_pos h0]; exact ⟨hu, S⟩
  · unfold clrP
    rw [if_neg (by omega)]
    exact ⟨hu.trans (clearV_N _), S⟩
noncomputable def cutE (pl : Int) (ps : List Psg) (xs : List Int) (out : Int) (pe : List Int) (T0 : Int) : List Int × Int :=
  if leaveE pl ps xs out pe T0 ≠ 0 then ([], leaveE pl ps xs out pe T0) else ((List.range pl.toNat).map fun p => ((mfc pl.toNat T0.toNat pe xs (hds out xs ps) p : Nat) : Int), 0)
theorem cut_form {pl : Int} {ps : List Psg} {xs : List Int} {out : Int} {pe : List Int} {T0 : Int} {w : World} {u : Value} {w' : World} (h : (fun u w' => (leaveE pl ps xs out pe T0 ≠ 0 ∧ u = .tuple #[.slice none 0 0, .int .i64 (leaveE pl ps xs out pe T0)] ∧ St w noF [] w') ∨ (leaveE pl ps xs out pe T0 = 0 ∧ ∃ A c, u = .tuple #[.slice A pl.toNat c, .int .i64 0] ∧ St w noF [ownM 3 1 A pl.toNat c (ncl (mfc pl.toNat T0.toNat pe xs (hds out xs ps)))] w')) u w') : (fun u w' => ∃ A c, u = .tuple #[.slice A (cutE pl ps xs out pe T0).1.length c, .int .i64 (cutE pl ps xs out pe T0).2] ∧ St w noF [ownM 3 1 A (cutE pl ps xs out pe T0).1.length c (icl (cutE pl ps xs out pe T0).1)] w') u w' := by
  rcases h with ⟨h0, rfl, S⟩ | ⟨h0, A, c, rfl, S⟩
  · unfold cutE; rw [if_pos h0]; exact ⟨none, 0, rfl, S.newNil _ _ _⟩
  · unfold cutE
    rw [if_neg (by omega)]
    dsimp only
    rw [List.length_map, List.length_range]
    refine ⟨A, c, rfl, S.recell (i := 0) rfl fun k j hk hj => ?_⟩
    unfold ncl icl
    rw [List.getD_eq_getElem?_getD, List.getElem?_map, List.getElem?_range hk]
    rfl


theorem law_WaysLeaves (pl : Int) (ps : List Psg) (PA : Option Addr) (pc : Nat) (xs : List Int) (XA : Option Addr) (xc : Nat) (out : Int) (pe : List Int) (BA : Option Addr) (bc : Nat) (T0 : Int) (w : World) (hps : InS w noF 7 PA ps.length (pcell ps)) (hpn8 : 56 * ps.length ≤ 140737488355328) (hxs : InS w noF 1 XA xs.length (icl xs)) (hxn8 : 8 * xs.length ≤ 140737488355328) (hpe : InS w noF 1 BA pe.length (icl pe)) (hpe8 : 8 * pe.length ≤ 140737488355328) :
    Calls Try.prog 8 [.agg [.int .i64 pl, .slice PA ps.length pc, .slice XA xs.length xc].toArray, .agg [.int .i64 out, .slice BA pe.length bc, .int .i64 T0].toArray].toArray w (Ret (fun u w' => u = .bool true ∧ St w noF [] w')) := by
 have hpn : ps.length ≤ 9223372036854775807 := by omega
 have hxn : xs.length ≤ 9223372036854775807 := by omega
 have hpen : pe.length ≤ 9223372036854775807 := by omega
 refine enter Try.func8 rfl Try.ntmps8 rfl (fun a H => ?_)
 have S := St.start w
 refine seq_list fun K1 k1 => ?_
 refine list_box H rfl S rfl rfl ?_;clear H a S;intro b2 _ a hb2 hbw2 S H
 refine list_box H rfl S rfl rfl ?_;clear H a S;intro b3 _ a hb3 hbw3 S H
 refine ls 1 H <| sr 1 rfl <| sE ?_;clear H a;intro a H
 refine k1 _ _ ?_;clear k1 K1
 refine wp_seq_k fun K2 k2 => ?_
 refine seq_list fun K3 k3 => ?_
 refine ls 5 H <| sd ((does_loadBox agg_25 sz_25 rfl S (i := 1) rfl rfl)) <| sf fo_48_1 rfl <| sl S 0 one_23 rfl rfl rfl <| sf fo_48_2 rfl <| sl S 0 one_3 rfl rfl rfl <| sE ?_;clear H a;intro a H
 refine list_call H rfl rfl Try.func28 rfl rfl (law_Crowded pl ps PA pc xs XA xc pe BA bc T0 _ (hps.now S) hpn (hxs.now S) hxn (hpe.now S) hpen) ?_;clear H a
 rintro _ _ a ⟨cb, rfl, hcb, S2⟩ H
 replace S := S.call S2;clear S2
 refine k3 _ _ ?_;clear k3 K3
 refine cond_ H rfl (fun hc1 => ?_) (fun hc1 => ?_)
 ·skip
  try simp only [o1,o2,o3,o4,o5,o6,o7,o8,o9,oa] at hc1
  skip
  replace H := H.keep [] rfl
  refine seq_list fun K4 k4 => ?_
  refine list_call H rfl rfl Try.func15 rfl rfl (law_works _) ?_;clear H a
  rintro _ _ a ⟨rfl, S2⟩ H
  replace S := S.call S2;clear S2
  refine ls 1 H <| sr 1 rfl <| sE ?_;clear H a;intro a H
  refine k4 _ _ ?_;clear k4 K4
  refine wp_ret ?_
  refine ret1 (fn := Try.f8) rfl H rfl ?_
  exact ⟨rfl, (S.sel [] rfl rfl)⟩
 try simp only [o1,o2,o3,o4,o5,o6,o7,o8,o9,oa] at hc1
 have hsm := hcb hc1
 refine wp_skip ?_
 refine k2 _ _ ?_
 have SR := (S.sel [0, 1] rfl rfl)
 refine meet_sr (X := Option Addr × Nat × Option Addr × Nat × Nat × Option Addr × Nat) [2, 3] H rfl (fun ⟨A5, c5, B5, d5, b5, A6, c6⟩ => [(5, .pointer (some ⟨b5, 0, none⟩)), (6, .slice A6 pe.length c6)]) (fun ⟨A5, c5, B5, d5, b5, A6, c6⟩ => [boxM b5 25 [.int .i64 pl, .slice A5 ps.length c5, .slice B5 xs.length d5], ownM 45 7 A5 ps.length c5 (pcell ps), ownM 3 1 B5 xs.length d5 (icl xs), ownM 3 1 A6 pe.length c6 (icl pe)]) (fun ⟨A5, c5, B5, d5, b5, A6, c6⟩ => True) SR (fun K5 k5 => ?_) ?_
 ·skip
  replace H := H.keep [2, 3] rfl
  replace S := S.drew
  refine one_wt 999 (.q 0 (.q 3 (.q 4 (.b3 1 (.b2 2 (.b2 5 (.e 6 (.e 7 (.q 8 .nil))) 6 (.e 5 (.e 7 (.q 8 .nil)))) 6 (.e 2 (.e 5 (.e 7 (.q 8 .nil))))) 2 (.b2 1 (.b2 5 (.e 6 (.e 7 (.q 8 .nil))) 6 (.e 5 (.e 7 (.q 8 .nil)))) 6 (.e 1 (.e 5 (.e 7 (.q 8 .nil))))) 6 (.b2 1 (.e 2 (.e 5 (.e 7 (.q 8 .nil)))) 2 (.e 1 (.e 5 (.e 7 (.q 8 .nil))))))))) (by kernel_rfl) (by kernel_rfl) (S.sel [0, 1] rfl rfl) ?_
  refine wt_does H rfl rfl (fun _ S => (does_loadBox agg_25 sz_25 rfl S (i := 1) rfl rfl)) ?_;clear H a;intro a H
  refine wt_does H rfl rfl (fun _ S => (does_field fo_48_1 rfl)) ?_;clear H a;intro a H
  refine wt_does H rfl rfl (fun _ S => does_load one_23 rfl (boxM.rd S (i := 0) rfl rfl)) ?_;clear H a;intro a H
  refine wt_b3 rfl rfl rfl ?_ ?_ ?_
  ·skip
   refine list_call H rfl rfl Try.func17 rfl rfl (ref_Copy pl ps PA pc xs XA xc _ (hps.now S) hpn (hxs.now S) hxn hpn8 hxn8) ?_;clear H a
   rintro _ _ a ⟨A5, c5, B5, d5, rfl, S2⟩ H
   replace S := S.call S2;clear S2
   refine wpList_nil (And.intro (Or.inr (S.sel [2, 3] rfl rfl)) ?_)
   refine wt_b2 rfl rfl ?_ ?_
   ·skip
    refine list_build0 H rfl S sl_23 sz_3 (icl pe) ?_;clear H a S;intro A1 _ a S H
    refine wpList_nil (And.intro (Or.inr (S.sel [3, 4] rfl rfl)) ?_)
    refine wt_b2 rfl rfl ?_ ?_
    ·skip
     refine list_append H rfl S sl_23 sz_3 ze_3 by_3 rfl rfl (i := 0) rfl rfl rfl ((hpe.now S)) (fun _ _ _ _ => rfl) (by omega) (by omega) ?_;clear H a S;intro A2 c2 _ a S H
     rw [Nat.zero_add] at H
     replace S := S.recell (i := 0) (n := pe.length) (cell' := icl pe) (by simp only [Nat.zero_add]; rfl) (fun k j hk hj => by unfold capp; rw [if_neg (by omega)]; rfl)
     refine wpList_nil (And.intro (Or.inr (S.sel [3, 4] rfl rfl)) ?_)
     refine wt_eff rfl ?_
     refine list_alloc H rfl S ze_25 ?_;clear H a S;intro b5 _ a hb5 hbw5 S H
     refine wpList_nil (And.intro (Or.inr (S.sel [4, 5] rfl rfl)) ?_)
     refine wt_eff rfl ?_
     refine list_store H S (i := 0) rfl rfl rfl rfl sz_25 rfl rfl ?_
     clear H a S;intro _ a S H
     refine wpList_nil (And.intro (Or.inr (S.sel [4, 5] rfl rfl)) ?_)
     refine wt_does H rfl rfl (fun _ S => does_assign rfl) ?_;clear H a;intro a H
     refine wt_nil ?_
     exact k5 (_, _, _, _, _, _, _) a _ (trivial) (S.sel [0, 2, 3, 1, 4, 5] rfl rfl) (H.keep [5, 6, 2, 3] rfl)
    ·skip
     refine list_alloc H rfl S ze_25 ?_;clear H a S;intro b5 _ a hb5 hbw5 S H
     refine wpList_nil (And.intro (Or.inr (S.sel [4, 5] rfl rfl)) ?_)
     refine wt_eff rfl ?_
     refine list_append H rfl S sl_23 sz_3 ze_3 by_3 rfl rfl (i := 1) rfl rfl rfl ((hpe.now S)) (fun _ _ _ _ => rfl) (by omega) (by omega) ?_;clear H a S;intro A3 c3 _ a S H
     rw [Nat.zero_add] at H
     replace S := S.recell (i := 1) (n := pe.length) (cell' := icl pe) (by simp only [Nat.zero_add]; rfl) (fun k j hk hj => by unfold capp; rw [if_neg (by omega)]; rfl)
     refine wpList_nil (And.intro (Or.inr (S.sel [4, 5] rfl rfl)) ?_)
     refine wt_eff rfl ?_
     refine list_store H S (i := 0) rfl rfl rfl rfl sz_25 rfl rfl ?_
     clear H a S;intro _ a S H
     refine wpList_nil (And.intro (Or.inr (S.sel [4, 5] rfl rfl)) ?_)
     refine wt_does H rfl rfl (fun _ S => does_assign rfl) ?_;clear H a;intro a H
     refine wt_nil ?_
     exact k5 (_, _, _, _, _, _, _) a _ (trivial) (S.sel [0, 2, 3, 1, 4, 5] rfl rfl) (H.keep [5, 6, 2, 3] rfl)
   ·skip
    refine list_alloc H rfl S ze_25 ?_;clear H a S;intro b5 _ a hb5 hbw5 S H
    refine wpList_nil (And.intro (Or.inr (S.sel [3, 4] rfl rfl)) ?_)
    refine wt_eff rfl ?_
    refine list_build0 H rfl S sl_23 sz_3 (icl pe) ?_;clear H a S;intro A4 _ a S H
    refine wpList_nil (And.intro (Or.inr (S.sel [4, 5] rfl rfl)) ?_)
    refine wt_eff rfl ?_
    refine list_append H rfl S sl_23 sz_3 ze_3 by_3 rfl rfl (i := 0) rfl rfl rfl ((hpe.now S)) (fun _ _ _ _ => rfl) (by omega) (by omega) ?_;clear H a S;intro A5 c5 _ a S H
    rw [Nat.zero_add] at H
    replace S := S.recell (i := 0) (n := pe.length) (cell' := icl pe) (by simp only [Nat.zero_add]; rfl) (fun k j hk hj => by unfold capp; rw [if_neg (by omega)]; rfl)
    refine wpList_nil (And.intro (Or.inr (S.sel [4, 5] rfl rfl)) ?_)
    refine wt_eff rfl ?_
    refine list_store H S (i := 1) rfl rfl rfl rfl sz_25 rfl rfl ?_
    clear H a S;intro _ a S H
    refine wpList_nil (And.intro (Or.inr (S.sel [4, 5] rfl rfl)) ?_)
    refine wt_does H rfl rfl (fun _ S => does_assign rfl) ?_;clear H a;intro a H
    refine wt_nil ?_
    exact k5 (_, _, _, _, _, _, _) a _ (trivial) (S.sel [1, 2, 3, 0, 4, 5] rfl rfl) (H.keep [5, 6, 2, 3] rfl)
  ·skip
   refine list_build0 H rfl S sl_23 sz_3 (icl pe) ?_;clear H a S;intro A6 _ a S H
   refine wpList_nil (And.intro (Or.inr (S.sel [1, 2] rfl rfl)) ?_)
   refine wt_b2 rfl rfl ?_ ?_
   ·skip
    refine list_call H rfl rfl Try.func17 rfl rfl (ref_Copy pl ps PA pc xs XA xc _ (hps.now S) hpn (hxs.now S) hxn hpn8 hxn8) ?_;clear H a
    rintro _ _ a ⟨A5, c5, B5, d5, rfl, S2⟩ H
    replace S := S.call S2;clear S2
    refine wpList_nil (And.intro (Or.inr (S.sel [3, 4] rfl rfl)) ?_)
    refine wt_b2 rfl rfl ?_ ?_
    ·skip
     refine list_append H rfl S sl_23 sz_3 ze_3 by_3 rfl rfl (i := 2) rfl rfl rfl ((hpe.now S)) (fun _ _ _ _ => rfl) (by omega) (by omega) ?_;clear H a S;intro A7 c7 _ a S H
     rw [Nat.zero_add] at H
     replace S := S.recell (i := 2) (n := pe.length) (cell' := icl pe) (by simp only [Nat.zero_add]; rfl) (fun k j hk hj => by unfold capp; rw [if_neg (by omega)]; rfl)
     refine wpList_nil (And.intro (Or.inr (S.sel [3, 4] rfl rfl)) ?_)
     refine wt_eff rfl ?_
     refine list_alloc H rfl S ze_25 ?_;clear H a S;intro b5 _ a hb5 hbw5 S H
     refine wpList_nil (And.intro (Or.inr (S.sel [4, 5] rfl rfl)) ?_)
     refine wt_eff rfl ?_
     refine list_store H S (i := 0) rfl rfl rfl rfl sz_25 rfl rfl ?_
     clear H a S;intro _ a S H
     refine wpList_nil (And.intro (Or.inr (S.sel [4, 5] rfl rfl)) ?_)
     refine wt_does H rfl rfl (fun _ S => does_assign rfl) ?_;clear H a;intro a H
     refine wt_nil ?_
     exact k5 (_, _, _, _, _, _, _) a _ (trivial) (S.sel [0, 1, 2, 3, 4, 5] rfl rfl) (H.keep [5, 6, 2, 3] rfl)
    ·skip
     refine list_alloc H rfl S ze_25 ?_;clear H a S;intro b5 _ a hb5 hbw5 S H
     refine wpList_nil (And.intro (Or.inr (S.sel [4, 5] rfl rfl)) ?_)
     refine wt_eff rfl ?_
     refine list_append H rfl S sl_23 sz_3 ze_3 by_3 rfl rfl (i := 3) rfl rfl rfl ((hpe.now S)) (fun _ _ _ _ => rfl) (by omega) (by omega) ?_;clear H a S;intro A8 c8 _ a S H
     rw [Nat.zero_add] at H
     replace S := S.recell (i := 3) (n := pe.length) (cell' := icl pe) (by simp only [Nat.zero_add]; rfl) (fun k j hk hj => by unfold capp; rw [if_neg (by omega)]; rfl)
     refine wpList_nil (And.intro (Or.inr (S.sel [4, 5] rfl rfl)) ?_)
     refine wt_eff rfl ?_
     refine list_store H S (i := 0) rfl rfl rfl rfl sz_25 rfl rfl ?_
     clear H a S;intro _ a S H
     refine wpList_nil (And.intro (Or.inr (S.sel [4, 5] rfl rfl)) ?_)
     refine wt_does H rfl rfl (fun _ S => does_assign rfl) ?_;clear H a;intro a H
     refine wt_nil ?_
     exact k5 (_, _, _, _, _, _, _) a _ (trivial) (S.sel [0, 1, 2, 3, 4, 5] rfl rfl) (H.keep [5, 6, 2, 3] rfl)
   ·skip
    refine list_alloc H rfl S ze_25 ?_;clear H a S;intro b5 _ a hb5 hbw5 S H
    refine wpList_nil (And.intro (Or.inr (S.sel [2, 3] rfl rfl)) ?_)
    refine wt_eff rfl ?_
    refine list_call H rfl rfl Try.func17 rfl rfl (ref_Copy pl ps PA pc xs XA xc _ (hps.now S) hpn (hxs.now S) hxn hpn8 hxn8) ?_;clear H a
    rintro _ _ a ⟨A5, c5, B5, d5, rfl, S2⟩ H
    replace S := S.call S2;clear S2
    refine wpList_nil (And.intro (Or.inr (S.sel [4, 5] rfl rfl)) ?_)
    refine wt_eff rfl ?_
    refine list_append H rfl S sl_23 sz_3 ze_3 by_3 rfl rfl (i := 3) rfl rfl rfl ((hpe.now S)) (fun _ _ _ _ => rfl) (by omega) (by omega) ?_;clear H a S;intro A9 c9 _ a S H
    rw [Nat.zero_add] at H
    replace S := S.recell (i := 3) (n := pe.length) (cell' := icl pe) (by simp only [Nat.zero_add]; rfl) (fun k j hk hj => by unfold capp; rw [if_neg (by omega)]; rfl)
    refine wpList_nil (And.intro (Or.inr (S.sel [4, 5] rfl rfl)) ?_)
    refine wt_eff rfl ?_
    refine list_store H S (i := 2) rfl rfl rfl rfl sz_25 rfl rfl ?_
    clear H a S;intro _ a S H
    refine wpList_nil (And.intro (Or.inr (S.sel [4, 5] rfl rfl)) ?_)
    refine wt_does H rfl rfl (fun _ S => does_assign rfl) ?_;clear H a;intro a H
    refine wt_nil ?_
    exact k5 (_, _, _, _, _, _, _) a _ (trivial) (S.sel [2, 0, 1, 3, 4, 5] rfl rfl) (H.keep [5, 6, 2, 3] rfl)
  ·skip
   refine list_alloc H rfl S ze_25 ?_;clear H a S;intro b5 _ a hb5 hbw5 S H
   refine wpList_nil (And.intro (Or.inr (S.sel [1, 2] rfl rfl)) ?_)
   refine wt_b2 rfl rfl ?_ ?_
   ·skip
    refine list_call H rfl rfl Try.func17 rfl rfl (ref_Copy pl ps PA pc xs XA xc _ (hps.now S) hpn (hxs.now S) hxn hpn8 hxn8) ?_;clear H a
    rintro _ _ a ⟨A5, c5, B5, d5, rfl, S2⟩ H
    replace S := S.call S2;clear S2
    refine wpList_nil (And.intro (Or.inr (S.sel [3, 4] rfl rfl)) ?_)
    refine wt_eff rfl ?_
    refine list_build0 H rfl S sl_23 sz_3 (icl pe) ?_;clear H a S;intro A10 _ a S H
    refine wpList_nil (And.intro (Or.inr (S.sel [4, 5] rfl rfl)) ?_)
    refine wt_eff rfl ?_
    refine list_append H rfl S sl_23 sz_3 ze_3 by_3 rfl rfl (i := 0) rfl rfl rfl ((hpe.now S)) (fun _ _ _ _ => rfl) (by omega) (by omega) ?_;clear H a S;intro A11 c11 _ a S H
    rw [Nat.zero_add] at H
    replace S := S.recell (i := 0) (n := pe.length) (cell' := icl pe) (by simp only [Nat.zero_add]; rfl) (fun k j hk hj => by unfold capp; rw [if_neg (by omega)]; rfl)
    refine wpList_nil (And.intro (Or.inr (S.sel [4, 5] rfl rfl)) ?_)
    refine wt_eff rfl ?_
    refine list_store H S (i := 3) rfl rfl rfl rfl sz_25 rfl rfl ?_
    clear H a S;intro _ a S H
    refine wpList_nil (And.intro (Or.inr (S.sel [4, 5] rfl rfl)) ?_)
    refine wt_does H rfl rfl (fun _ S => does_assign rfl) ?_;clear H a;intro a H
    refine wt_nil ?_
    exact k5 (_, _, _, _, _, _, _) a _ (trivial) (S.sel [3, 1, 2, 0, 4, 5] rfl rfl) (H.keep [5, 6, 2, 3] rfl)
   ·skip
    refine list_build0 H rfl S sl_23 sz_3 (icl pe) ?_;clear H a S;intro A12 _ a S H
    refine wpList_nil (And.intro (Or.inr (S.sel [2, 3] rfl rfl)) ?_)
    refine wt_eff rfl ?_
    refine list_call H rfl rfl Try.func17 rfl rfl (ref_Copy pl ps PA pc xs XA xc _ (hps.now S) hpn (hxs.now S) hxn hpn8 hxn8) ?_;clear H a
    rintro _ _ a ⟨A5, c5, B5, d5, rfl, S2⟩ H
    replace S := S.call S2;clear S2
    refine wpList_nil (And.intro (Or.inr (S.sel [4, 5] rfl rfl)) ?_)
    refine wt_eff rfl ?_
    refine list_append H rfl S sl_23 sz_3 ze_3 by_3 rfl rfl (i := 2) rfl rfl rfl ((hpe.now S)) (fun _ _ _ _ => rfl) (by omega) (by omega) ?_;clear H a S;intro A13 c13 _ a S H
    rw [Nat.zero_add] at H
    replace S := S.recell (i := 2) (n := pe.length) (cell' := icl pe) (by simp only [Nat.zero_add]; rfl) (fun k j hk hj => by unfold capp; rw [if_neg (by omega)]; rfl)
    refine wpList_nil (And.intro (Or.inr (S.sel [4, 5] rfl rfl)) ?_)
    refine wt_eff rfl ?_
    refine list_store H S (i := 3) rfl rfl rfl rfl sz_25 rfl rfl ?_
    clear H a S;intro _ a S H
    refine wpList_nil (And.intro (Or.inr (S.sel [4, 5] rfl rfl)) ?_)
    refine wt_does H rfl rfl (fun _ S => does_assign rfl) ?_;clear H a;intro a H
    refine wt_nil ?_
    exact k5 (_, _, _, _, _, _, _) a _ (trivial) (S.sel [3, 0, 1, 2, 4, 5] rfl rfl) (H.keep [5, 6, 2, 3] rfl)
 clear SR H S a
 intro xm a wm hp S H
 obtain ⟨A5, c5, B5, d5, b5, A6, c6⟩ := xm
 replace H := H.keep [2, 3, 5, 6] rfl
 refine seq_list fun K7 k7 => ?_
 refine ls 6 H <| sd ((does_loadBox agg_25 sz_25 rfl S (i := 0) rfl rfl)) <| sf fo_48_0 rfl <| sl S 4 one_3 rfl rfl rfl <| sr 1 rfl <| sf fo_48_2 rfl <| sl S 4 one_3 rfl rfl rfl <| sE ?_;clear H a;intro a H
 refine list_call H rfl rfl Try.func30 rfl rfl (ret_imp (ways_Left pl ps A5 c5 xs B5 d5 out pe A6 c6 T0 _ (ownM.inS S (i := 1) rfl) hpn (ownM.inS S (i := 2) rfl) hxn (ownM.inS S (i := 3) rfl) hpen) (fun u w' h => left_form h)) ?_;clear H a
 rintro _ _ a ⟨rfl, S2⟩ H
 replace S := S.call S2;clear S2
 refine ls 5 H <| sr 5 rfl <| sE ?_;clear H a;intro a H
 refine k7 _ _ ?_;clear k7 K7
 replace H := H.keep [2, 3, 5, 6, 7, 8] rfl
 refine seq_list fun K8 k8 => ?_
 refine ls 7 H <| sd ((does_loadBox agg_25 sz_25 rfl S (i := 5) rfl rfl)) <| sf fo_48_0 rfl <| sl S 4 one_3 rfl rfl rfl <| sf fo_48_1 rfl <| sl S 4 one_23 rfl rfl rfl <| sf fo_48_2 rfl <| sl S 4 one_3 rfl rfl rfl <| sE ?_;clear H a;intro a H
 refine list_call H rfl rfl Try.func37 rfl rfl (ret_imp (ref_Left pl ps PA pc xs XA xc out pe BA bc T0 _ (hps.now S) hpn (hxs.now S) hxn (hpe.now S) hpen) (fun u w' h => left_form h)) ?_;clear H a
 rintro _ _ a ⟨rfl, S2⟩ H
 replace S := S.call S2;clear S2
 refine ls 5 H <| sr 5 rfl <| sE ?_;clear H a;intro a H
 refine k8 _ _ ?_;clear k8 K8
 refine wp_seq_k fun K9 k9 => ?_
 replace H := H.keep [2, 3, 5, 6, 7, 8, 9, 10] rfl
 refine sS H fun K10 k10=>sr 2 rfl <| sd (does_ne_f rfl rfl rfl) <| sr 1 rfl <| sy rfl <| sr 1 rfl <| sy rfl <| sr 1 rfl <| sy rfl <| sd (does_ne_f rfl rfl rfl) <| so rfl rfl rfl <| sE ?_;clear H a;intro a H
 refine k10 _ ?_;clear k10 K10
 refine cond_ H rfl (fun hc2 => ?_) (fun hc2 => ?_)
 ·skip
  skip
  cases hc2
 skip
 refine wp_skip ?_
 refine k9 _ _ ?_
 replace H := H.keep [2, 3, 5, 6] rfl
 refine seq_list fun K11 k11 => ?_
 refine ls 4 H <| sd ((does_loadBox agg_25 sz_25 rfl S (i := 0) rfl rfl)) <| sf fo_48_0 rfl <| sl S 4 one_3 rfl rfl rfl <| sr 1 rfl <| sE ?_;clear H a;intro a H
 refine list_call H rfl rfl Try.func38 rfl rfl (ret_imp (ways_Clear pl ps A5 c5 xs B5 d5 out pe A6 c6 _ (ownM.inS S (i := 1) rfl) hpn (ownM.inS S (i := 2) rfl) hxn (ownM.inS S (i := 3) rfl) hpen) (fun u w' h => clear_form h)) ?_;clear H a
 rintro _ _ a ⟨rfl, S2⟩ H
 replace S := S.call S2;clear S2
 refine ls 5 H <| sr 5 rfl <| sE ?_;clear H a;intro a H
 refine k11 _ _ ?_;clear k11 K11
 replace H := H.keep [2, 3, 7, 8] rfl
 refine seq_list fun K12 k12 => ?_
 refine ls 5 H <| sd ((does_loadBox agg_25 sz_25 rfl S (i := 5) rfl rfl)) <| sf fo_48_0 rfl <| sl S 4 one_3 rfl rfl rfl <| sf fo_48_1 rfl <| sl S 4 one_23 rfl rfl rfl <| sE ?_;clear H a;intro a H
 refine list_call H rfl rfl Try.func39 rfl rfl (ret_imp (ref_Clear pl ps PA pc xs XA xc out pe BA bc _ (hps.now S) hpn (hxs.now S) hxn (hpe.now S) hpen) (fun u w' h => clear_form h)) ?_;clear H a
 rintro _ _ a ⟨rfl, S2⟩ H
 replace S := S.call S2;clear S2
 refine ls 5 H <| sr 5 rfl <| sE ?_;clear H a;intro a H
 refine k12 _ _ ?_;clear k12 K12
 replace H := H.keep [7, 8, 9, 10] rfl
 refine seq_list fun K13 k13 => ?_
 refine ls 9 H <| sr 2 rfl <| sd (does_eq_t rfl rfl rfl) <| sr 1 rfl <| sy rfl <| sr 1 rfl <| sy rfl <| sr 1 rfl <| sy rfl <| sd (does_eq_t rfl rfl rfl) <| sa rfl rfl rfl <| sr 1 rfl <| sE ?_;clear H a;intro a H
 refine list_yes H rfl rfl ?_
 refine list_call H rfl rfl Try.func15 rfl rfl (law_works _) ?_;clear H a
 rintro _ _ a ⟨rfl, S2⟩ H
 replace S := S.call S2;clear S2
 refine ls 2 H <| sa rfl rfl rfl <| sr 1 rfl <| sE ?_;clear H a;intro a H
 refine k13 _ _ ?_;clear k13 K13
 refine wp_ret ?_
 refine ret1 (fn := Try.f8) rfl H rfl ?_
 exact ⟨rfl, (S.sel [] rfl rfl)⟩

end Go.Proofs.Ytlmddkekeoebcaa
