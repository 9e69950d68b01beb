/- LwK. Printed by gen.py. -/
import Derived.Test.YtlmddkekeoebcaaWyN
import Derived.Test.YtlmddkekeoebcaaWyO
import Derived.Test.YtlmddkekeoebcaaRfG
import Derived.Test.YtlmddkekeoebcaaRwW
import Derived.Test.YtlmddkekeoebcaaE2
namespace Go.Proofs.Ytlmddkekeoebcaa
open Go.RowKit
set_option linter.unusedVariables false
set_option linter.unusedSimpArgs false
set_option maxRecDepth 100000
set_option maxHeartbeats 4000000


theorem plan_form {pl : Int} {ps : List Psg} {xs : List Int} {out : Int} {pe : List Int} {T0 : Int} {w : World} {u : Value} {w' : World} (h : (fun u w' => (leaveE pl ps xs out pe T0 ≠ 0 ∧ u = .tuple #[.slice none 0 0, .int .i64 (leaveE pl ps xs out pe T0)] ∧ St w noF [] w') ∨ (leaveE pl ps xs out pe T0 = 0 ∧ ∃ l A c, (u = .tuple #[.slice A (List.length l) c, .int .i64 0] ∧ (planB ps xs out pe l pl.toNat = true ∧ outN ps xs out pe l pl.toNat T0.toNat = mfv pl.toNat T0.toNat pe xs (hds out xs ps) ∧ l.length ≤ 2928 ∧ ∀ k, k < l.length → (l.getD k Mv.zero).at_ ≤ T0)) ∧ St w noF [ownM 76 4 A l.length c (mvcell l)] w')) u w') : (fun u w' => ∃ l A c, (u = .tuple #[.slice A (List.length l) c, .int .i64 (leaveE pl ps xs out pe T0)] ∧ (leaveE pl ps xs out pe T0 ≠ 0 → l = []) ∧ (leaveE pl ps xs out pe T0 = 0 → planB ps xs out pe l pl.toNat = true ∧ outN ps xs out pe l pl.toNat T0.toNat = mfv pl.toNat T0.toNat pe xs (hds out xs ps) ∧ l.length ≤ 2928 ∧ ∀ k, k < l.length → (l.getD k Mv.zero).at_ ≤ T0)) ∧ St w noF [ownM 76 4 A l.length c (mvcell l)] w') u w' := by
  rcases h with ⟨h0, rfl, S⟩ | ⟨h0, l, A, c, ⟨h1, h2⟩, S⟩
  · exact ⟨[], none, 0, ⟨rfl, fun _ => rfl, fun h => absurd h h0⟩, S.newNil _ _ _⟩
  · refine ⟨l, A, c, ⟨?_, fun h => absurd h0 h, fun _ => h2⟩, S⟩
    rw [h0]; exact h1
theorem mv_one (l : List Mv) : ∀ k j, k < l.length → j < 4 → (mvcell l k j).oneCell' = true := fun k j _ _ => by
  unfold mvcell Mv.cell
  split <;> rfl
theorem left_snd {pl : Int} {ps : List Psg} {xs : List Int} {out : Int} {pe : List Int} {T0 : Int} : leaveE pl ps xs out pe T0 = (leftV pl ps xs out pe T0).2 := by
  unfold leftV
  split
  · rfl
  · show leaveE pl ps xs out pe T0 = 0; omega
theorem left_ok {P T : Nat} {ps : List Psg} {xs : List Int} {out : Int} {pe : List Int} (h : leaveE P ps xs out pe T = 0) : (leftV P ps xs out pe T).1 = mfv P T pe xs (hds out xs ps) := by
  unfold leftV
  rw [if_neg (by omega), Int.toNat_natCast, Int.toNat_natCast]


theorem law_WaysPlans (pl : Int) (ps : List Psg) (PA : Option Addr) (pc : Nat) (xs : List Int) (XA : Option Addr) (xc : Nat) (out : Int) (pe : List Int) (BA : Option Addr) (bc : Nat) (T0 : Int) (l : List Mv) (MA : Option Addr) (mc : Nat) (w : World) (hps : InS w noF 7 PA ps.length (pcell ps)) (hpn8 : 56 * ps.length ≤ 140737488355328) (hxs : InS w noF 1 XA xs.length (icl xs)) (hxn8 : 8 * xs.length ≤ 140737488355328) (hpe : InS w noF 1 BA pe.length (icl pe)) (hpe8 : 8 * pe.length ≤ 140737488355328) (hml : InS w noF 4 MA l.length (mvcell l)) (hml8 : 32 * l.length ≤ 140737488355328) :
    Calls Try.prog 12 [.agg [.int .i64 pl, .slice PA ps.length pc, .slice XA xs.length xc].toArray, .agg [.int .i64 out, .slice BA pe.length bc, .int .i64 T0].toArray, .slice MA l.length mc].toArray w (Ret (fun u w' => u = .bool true ∧ St w noF [] w')) := by
 have hpn : ps.length ≤ 9223372036854775807 := by omega
 have hxn : xs.length ≤ 9223372036854775807 := by omega
 have hpen : pe.length ≤ 9223372036854775807 := by omega
 have hmn : l.length ≤ 9223372036854775807 := by omega
 refine enter Try.func12 rfl Try.ntmps12 rfl (fun a H => ?_)
 have S := St.start w
 refine seq_list fun K1 k1 => ?_
 refine list_box H rfl S rfl rfl ?_;clear H a S;intro b3 _ a hb3 hbw3 S H
 refine list_box H rfl S rfl rfl ?_;clear H a S;intro b4 _ a hb4 hbw4 S H
 refine ls 1 H <| sr 1 rfl <| sE ?_;clear H a;intro a H
 refine k1 _ _ ?_;clear k1 K1
 refine wp_seq_k fun K2 k2 => ?_
 replace H := H.keep [2, 3, 4] rfl
 refine seq_list fun K3 k3 => ?_
 refine ls 5 H <| sd ((does_loadBox agg_25 sz_25 rfl S (i := 1) rfl rfl)) <| sf fo_48_1 rfl <| sl S 0 one_23 rfl rfl rfl <| sf fo_48_2 rfl <| sl S 0 one_3 rfl rfl rfl <| sE ?_;clear H a;intro a H
 refine list_call H rfl rfl Try.func28 rfl rfl (law_Crowded pl ps PA pc xs XA xc pe BA bc T0 _ (hps.now S) hpn (hxs.now S) hxn (hpe.now S) hpen) ?_;clear H a
 rintro _ _ a ⟨cb, rfl, hcb, S2⟩ H
 replace S := S.call S2;clear S2
 refine ls 5 H <| sr 1 rfl <| sg 3 6 22 25 false rfl rfl (fun hg7 => by
     have hq7 := hg7;try simp only [o1,o2,o3,o4,o5,o6,o7,o8,o9,oa] at hq7
     exact sy hg7 <| sr 1 rfl <| sy hg7 <| sL sl_49 rfl <| sy hg7 <| sr 1 rfl <| sz 3 rfl rfl rfl) <| so rfl rfl rfl <| sE ?_;clear H a;intro a H
 refine k3 _ _ ?_;clear k3 K3
 refine cond_ H rfl (fun hc1 => ?_) (fun hc1 => ?_)
 ·skip
  try simp only [o1,o2,o3,o4,o5,o6,o7,o8,o9,oa] at hc1
  skip
  replace H := H.keep [] rfl
  refine seq_list fun K4 k4 => ?_
  refine list_call H rfl rfl Try.func15 rfl rfl (law_works _) ?_;clear H a
  rintro _ _ a ⟨rfl, S2⟩ H
  replace S := S.call S2;clear S2
  refine ls 1 H <| sr 1 rfl <| sE ?_;clear H a;intro a H
  refine k4 _ _ ?_;clear k4 K4
  refine wp_ret ?_
  refine ret1 (fn := Try.f12) rfl H rfl ?_
  exact ⟨rfl, (S.sel [] rfl rfl)⟩
 try simp only [o1,o2,o3,o4,o5,o6,o7,o8,o9,oa] at hc1
 have hsm := hcb hc1.1
 refine wp_skip ?_
 refine k2 _ _ ?_
 have SR := (S.sel [0, 1] rfl rfl)
 refine meet_sr (X := Option Addr × Nat × Option Addr × Nat × Nat × Option Addr × Nat) [2, 3, 4] H rfl (fun ⟨A5, c5, B5, d5, b5, A6, c6⟩ => [(7, .pointer (some ⟨b5, 0, none⟩)), (8, .slice A6 pe.length c6)]) (fun ⟨A5, c5, B5, d5, b5, A6, c6⟩ => [boxM b5 25 [.int .i64 pl, .slice A5 ps.length c5, .slice B5 xs.length d5], ownM 45 7 A5 ps.length c5 (pcell ps), ownM 3 1 B5 xs.length d5 (icl xs), ownM 3 1 A6 pe.length c6 (icl pe)]) (fun ⟨A5, c5, B5, d5, b5, A6, c6⟩ => True) SR (fun K5 k5 => ?_) ?_
 ·skip
  replace H := H.keep [2, 3, 4] rfl
  replace S := S.drew
  refine one_wt 999 (.q 0 (.q 3 (.q 4 (.b3 1 (.b2 2 (.b2 5 (.e 6 (.e 7 (.q 8 .nil))) 6 (.e 5 (.e 7 (.q 8 .nil)))) 6 (.e 2 (.e 5 (.e 7 (.q 8 .nil))))) 2 (.b2 1 (.b2 5 (.e 6 (.e 7 (.q 8 .nil))) 6 (.e 5 (.e 7 (.q 8 .nil)))) 6 (.e 1 (.e 5 (.e 7 (.q 8 .nil))))) 6 (.b2 1 (.e 2 (.e 5 (.e 7 (.q 8 .nil)))) 2 (.e 1 (.e 5 (.e 7 (.q 8 .nil))))))))) (by kernel_rfl) (by kernel_rfl) (S.sel [0, 1] rfl rfl) ?_
  refine wt_does H rfl rfl (fun _ S => (does_loadBox agg_25 sz_25 rfl S (i := 1) rfl rfl)) ?_;clear H a;intro a H
  refine wt_does H rfl rfl (fun _ S => (does_field fo_48_1 rfl)) ?_;clear H a;intro a H
  refine wt_does H rfl rfl (fun _ S => does_load one_23 rfl (boxM.rd S (i := 0) rfl rfl)) ?_;clear H a;intro a H
  refine wt_b3 rfl rfl rfl ?_ ?_ ?_
  ·skip
   refine list_call H rfl rfl Try.func17 rfl rfl (ref_Copy pl ps PA pc xs XA xc _ (hps.now S) hpn (hxs.now S) hxn hpn8 hxn8) ?_;clear H a
   rintro _ _ a ⟨A5, c5, B5, d5, rfl, S2⟩ H
   replace S := S.call S2;clear S2
   refine wpList_nil (And.intro (Or.inr (S.sel [2, 3] rfl rfl)) ?_)
   refine wt_b2 rfl rfl ?_ ?_
   ·skip
    refine list_build0 H rfl S sl_23 sz_3 (icl pe) ?_;clear H a S;intro A1 _ a S H
    refine wpList_nil (And.intro (Or.inr (S.sel [3, 4] rfl rfl)) ?_)
    refine wt_b2 rfl rfl ?_ ?_
    ·skip
     refine list_append H rfl S sl_23 sz_3 ze_3 by_3 rfl rfl (i := 0) rfl rfl rfl ((hpe.now S)) (fun _ _ _ _ => rfl) (by omega) (by omega) ?_;clear H a S;intro A2 c2 _ a S H
     rw [Nat.zero_add] at H
     replace S := S.recell (i := 0) (n := pe.length) (cell' := icl pe) (by simp only [Nat.zero_add]; rfl) (fun k j hk hj => by unfold capp; rw [if_neg (by omega)]; rfl)
     refine wpList_nil (And.intro (Or.inr (S.sel [3, 4] rfl rfl)) ?_)
     refine wt_eff rfl ?_
     refine list_alloc H rfl S ze_25 ?_;clear H a S;intro b7 _ a hb7 hbw7 S H
     refine wpList_nil (And.intro (Or.inr (S.sel [4, 5] rfl rfl)) ?_)
     refine wt_eff rfl ?_
     refine list_store H S (i := 0) rfl rfl rfl rfl sz_25 rfl rfl ?_
     clear H a S;intro _ a S H
     refine wpList_nil (And.intro (Or.inr (S.sel [4, 5] rfl rfl)) ?_)
     refine wt_does H rfl rfl (fun _ S => does_assign rfl) ?_;clear H a;intro a H
     refine wt_nil ?_
     exact k5 (_, _, _, _, _, _, _) a _ (trivial) (S.sel [0, 2, 3, 1, 4, 5] rfl rfl) (H.keep [7, 8, 2, 3, 4] rfl)
    ·skip
     refine list_alloc H rfl S ze_25 ?_;clear H a S;intro b7 _ a hb7 hbw7 S H
     refine wpList_nil (And.intro (Or.inr (S.sel [4, 5] rfl rfl)) ?_)
     refine wt_eff rfl ?_
     refine list_append H rfl S sl_23 sz_3 ze_3 by_3 rfl rfl (i := 1) rfl rfl rfl ((hpe.now S)) (fun _ _ _ _ => rfl) (by omega) (by omega) ?_;clear H a S;intro A3 c3 _ a S H
     rw [Nat.zero_add] at H
     replace S := S.recell (i := 1) (n := pe.length) (cell' := icl pe) (by simp only [Nat.zero_add]; rfl) (fun k j hk hj => by unfold capp; rw [if_neg (by omega)]; rfl)
     refine wpList_nil (And.intro (Or.inr (S.sel [4, 5] rfl rfl)) ?_)
     refine wt_eff rfl ?_
     refine list_store H S (i := 0) rfl rfl rfl rfl sz_25 rfl rfl ?_
     clear H a S;intro _ a S H
     refine wpList_nil (And.intro (Or.inr (S.sel [4, 5] rfl rfl)) ?_)
     refine wt_does H rfl rfl (fun _ S => does_assign rfl) ?_;clear H a;intro a H
     refine wt_nil ?_
     exact k5 (_, _, _, _, _, _, _) a _ (trivial) (S.sel [0, 2, 3, 1, 4, 5] rfl rfl) (H.keep [7, 8, 2, 3, 4] rfl)
   ·skip
    refine list_alloc H rfl S ze_25 ?_;clear H a S;intro b7 _ a hb7 hbw7 S H
    refine wpList_nil (And.intro (Or.inr (S.sel [3, 4] rfl rfl)) ?_)
    refine wt_eff rfl ?_
    refine list_build0 H rfl S sl_23 sz_3 (icl pe) ?_;clear H a S;intro A4 _ a S H
    refine wpList_nil (And.intro (Or.inr (S.sel [4, 5] rfl rfl)) ?_)
    refine wt_eff rfl ?_
    refine list_append H rfl S sl_23 sz_3 ze_3 by_3 rfl rfl (i := 0) rfl rfl rfl ((hpe.now S)) (fun _ _ _ _ => rfl) (by omega) (by omega) ?_;clear H a S;intro A5 c5 _ a S H
    rw [Nat.zero_add] at H
    replace S := S.recell (i := 0) (n := pe.length) (cell' := icl pe) (by simp only [Nat.zero_add]; rfl) (fun k j hk hj => by unfold capp; rw [if_neg (by omega)]; rfl)
    refine wpList_nil (And.intro (Or.inr (S.sel [4, 5] rfl rfl)) ?_)
    refine wt_eff rfl ?_
    refine list_store H S (i := 1) rfl rfl rfl rfl sz_25 rfl rfl ?_
    clear H a S;intro _ a S H
    refine wpList_nil (And.intro (Or.inr (S.sel [4, 5] rfl rfl)) ?_)
    refine wt_does H rfl rfl (fun _ S => does_assign rfl) ?_;clear H a;intro a H
    refine wt_nil ?_
    exact k5 (_, _, _, _, _, _, _) a _ (trivial) (S.sel [1, 2, 3, 0, 4, 5] rfl rfl) (H.keep [7, 8, 2, 3, 4] rfl)
  ·skip
   refine list_build0 H rfl S sl_23 sz_3 (icl pe) ?_;clear H a S;intro A6 _ a S H
   refine wpList_nil (And.intro (Or.inr (S.sel [1, 2] rfl rfl)) ?_)
   refine wt_b2 rfl rfl ?_ ?_
   ·skip
    refine list_call H rfl rfl Try.func17 rfl rfl (ref_Copy pl ps PA pc xs XA xc _ (hps.now S) hpn (hxs.now S) hxn hpn8 hxn8) ?_;clear H a
    rintro _ _ a ⟨A5, c5, B5, d5, rfl, S2⟩ H
    replace S := S.call S2;clear S2
    refine wpList_nil (And.intro (Or.inr (S.sel [3, 4] rfl rfl)) ?_)
    refine wt_b2 rfl rfl ?_ ?_
    ·skip
     refine list_append H rfl S sl_23 sz_3 ze_3 by_3 rfl rfl (i := 2) rfl rfl rfl ((hpe.now S)) (fun _ _ _ _ => rfl) (by omega) (by omega) ?_;clear H a S;intro A7 c7 _ a S H
     rw [Nat.zero_add] at H
     replace S := S.recell (i := 2) (n := pe.length) (cell' := icl pe) (by simp only [Nat.zero_add]; rfl) (fun k j hk hj => by unfold capp; rw [if_neg (by omega)]; rfl)
     refine wpList_nil (And.intro (Or.inr (S.sel [3, 4] rfl rfl)) ?_)
     refine wt_eff rfl ?_
     refine list_alloc H rfl S ze_25 ?_;clear H a S;intro b7 _ a hb7 hbw7 S H
     refine wpList_nil (And.intro (Or.inr (S.sel [4, 5] rfl rfl)) ?_)
     refine wt_eff rfl ?_
     refine list_store H S (i := 0) rfl rfl rfl rfl sz_25 rfl rfl ?_
     clear H a S;intro _ a S H
     refine wpList_nil (And.intro (Or.inr (S.sel [4, 5] rfl rfl)) ?_)
     refine wt_does H rfl rfl (fun _ S => does_assign rfl) ?_;clear H a;intro a H
     refine wt_nil ?_
     exact k5 (_, _, _, _, _, _, _) a _ (trivial) (S.sel [0, 1, 2, 3, 4, 5] rfl rfl) (H.keep [7, 8, 2, 3, 4] rfl)
    ·skip
     refine list_alloc H rfl S ze_25 ?_;clear H a S;intro b7 _ a hb7 hbw7 S H
     refine wpList_nil (And.intro (Or.inr (S.sel [4, 5] rfl rfl)) ?_)
     refine wt_eff rfl ?_
     refine list_append H rfl S sl_23 sz_3 ze_3 by_3 rfl rfl (i := 3) rfl rfl rfl ((hpe.now S)) (fun _ _ _ _ => rfl) (by omega) (by omega) ?_;clear H a S;intro A8 c8 _ a S H
     rw [Nat.zero_add] at H
     replace S := S.recell (i := 3) (n := pe.length) (cell' := icl pe) (by simp only [Nat.zero_add]; rfl) (fun k j hk hj => by unfold capp; rw [if_neg (by omega)]; rfl)
     refine wpList_nil (And.intro (Or.inr (S.sel [4, 5] rfl rfl)) ?_)
     refine wt_eff rfl ?_
     refine list_store H S (i := 0) rfl rfl rfl rfl sz_25 rfl rfl ?_
     clear H a S;intro _ a S H
     refine wpList_nil (And.intro (Or.inr (S.sel [4, 5] rfl rfl)) ?_)
     refine wt_does H rfl rfl (fun _ S => does_assign rfl) ?_;clear H a;intro a H
     refine wt_nil ?_
     exact k5 (_, _, _, _, _, _, _) a _ (trivial) (S.sel [0, 1, 2, 3, 4, 5] rfl rfl) (H.keep [7, 8, 2, 3, 4] rfl)
   ·skip
    refine list_alloc H rfl S ze_25 ?_;clear H a S;intro b7 _ a hb7 hbw7 S H
    refine wpList_nil (And.intro (Or.inr (S.sel [2, 3] rfl rfl)) ?_)
    refine wt_eff rfl ?_
    refine list_call H rfl rfl Try.func17 rfl rfl (ref_Copy pl ps PA pc xs XA xc _ (hps.now S) hpn (hxs.now S) hxn hpn8 hxn8) ?_;clear H a
    rintro _ _ a ⟨A5, c5, B5, d5, rfl, S2⟩ H
    replace S := S.call S2;clear S2
    refine wpList_nil (And.intro (Or.inr (S.sel [4, 5] rfl rfl)) ?_)
    refine wt_eff rfl ?_
    refine list_append H rfl S sl_23 sz_3 ze_3 by_3 rfl rfl (i := 3) rfl rfl rfl ((hpe.now S)) (fun _ _ _ _ => rfl) (by omega) (by omega) ?_;clear H a S;intro A9 c9 _ a S H
    rw [Nat.zero_add] at H
    replace S := S.recell (i := 3) (n := pe.length) (cell' := icl pe) (by simp only [Nat.zero_add]; rfl) (fun k j hk hj => by unfold capp; rw [if_neg (by omega)]; rfl)
    refine wpList_nil (And.intro (Or.inr (S.sel [4, 5] rfl rfl)) ?_)
    refine wt_eff rfl ?_
    refine list_store H S (i := 2) rfl rfl rfl rfl sz_25 rfl rfl ?_
    clear H a S;intro _ a S H
    refine wpList_nil (And.intro (Or.inr (S.sel [4, 5] rfl rfl)) ?_)
    refine wt_does H rfl rfl (fun _ S => does_assign rfl) ?_;clear H a;intro a H
    refine wt_nil ?_
    exact k5 (_, _, _, _, _, _, _) a _ (trivial) (S.sel [2, 0, 1, 3, 4, 5] rfl rfl) (H.keep [7, 8, 2, 3, 4] rfl)
  ·skip
   refine list_alloc H rfl S ze_25 ?_;clear H a S;intro b7 _ a hb7 hbw7 S H
   refine wpList_nil (And.intro (Or.inr (S.sel [1, 2] rfl rfl)) ?_)
   refine wt_b2 rfl rfl ?_ ?_
   ·skip
    refine list_call H rfl rfl Try.func17 rfl rfl (ref_Copy pl ps PA pc xs XA xc _ (hps.now S) hpn (hxs.now S) hxn hpn8 hxn8) ?_;clear H a
    rintro _ _ a ⟨A5, c5, B5, d5, rfl, S2⟩ H
    replace S := S.call S2;clear S2
    refine wpList_nil (And.intro (Or.inr (S.sel [3, 4] rfl rfl)) ?_)
    refine wt_eff rfl ?_
    refine list_build0 H rfl S sl_23 sz_3 (icl pe) ?_;clear H a S;intro A10 _ a S H
    refine wpList_nil (And.intro (Or.inr (S.sel [4, 5] rfl rfl)) ?_)
    refine wt_eff rfl ?_
    refine list_append H rfl S sl_23 sz_3 ze_3 by_3 rfl rfl (i := 0) rfl rfl rfl ((hpe.now S)) (fun _ _ _ _ => rfl) (by omega) (by omega) ?_;clear H a S;intro A11 c11 _ a S H
    rw [Nat.zero_add] at H
    replace S := S.recell (i := 0) (n := pe.length) (cell' := icl pe) (by simp only [Nat.zero_add]; rfl) (fun k j hk hj => by unfold capp; rw [if_neg (by omega)]; rfl)
    refine wpList_nil (And.intro (Or.inr (S.sel [4, 5] rfl rfl)) ?_)
    refine wt_eff rfl ?_
    refine list_store H S (i := 3) rfl rfl rfl rfl sz_25 rfl rfl ?_
    clear H a S;intro _ a S H
    refine wpList_nil (And.intro (Or.inr (S.sel [4, 5] rfl rfl)) ?_)
    refine wt_does H rfl rfl (fun _ S => does_assign rfl) ?_;clear H a;intro a H
    refine wt_nil ?_
    exact k5 (_, _, _, _, _, _, _) a _ (trivial) (S.sel [3, 1, 2, 0, 4, 5] rfl rfl) (H.keep [7, 8, 2, 3, 4] rfl)
   ·skip
    refine list_build0 H rfl S sl_23 sz_3 (icl pe) ?_;clear H a S;intro A12 _ a S H
    refine wpList_nil (And.intro (Or.inr (S.sel [2, 3] rfl rfl)) ?_)
    refine wt_eff rfl ?_
    refine list_call H rfl rfl Try.func17 rfl rfl (ref_Copy pl ps PA pc xs XA xc _ (hps.now S) hpn (hxs.now S) hxn hpn8 hxn8) ?_;clear H a
    rintro _ _ a ⟨A5, c5, B5, d5, rfl, S2⟩ H
    replace S := S.call S2;clear S2
    refine wpList_nil (And.intro (Or.inr (S.sel [4, 5] rfl rfl)) ?_)
    refine wt_eff rfl ?_
    refine list_append H rfl S sl_23 sz_3 ze_3 by_3 rfl rfl (i := 2) rfl rfl rfl ((hpe.now S)) (fun _ _ _ _ => rfl) (by omega) (by omega) ?_;clear H a S;intro A13 c13 _ a S H
    rw [Nat.zero_add] at H
    replace S := S.recell (i := 2) (n := pe.length) (cell' := icl pe) (by simp only [Nat.zero_add]; rfl) (fun k j hk hj => by unfold capp; rw [if_neg (by omega)]; rfl)
    refine wpList_nil (And.intro (Or.inr (S.sel [4, 5] rfl rfl)) ?_)
    refine wt_eff rfl ?_
    refine list_store H S (i := 3) rfl rfl rfl rfl sz_25 rfl rfl ?_
    clear H a S;intro _ a S H
    refine wpList_nil (And.intro (Or.inr (S.sel [4, 5] rfl rfl)) ?_)
    refine wt_does H rfl rfl (fun _ S => does_assign rfl) ?_;clear H a;intro a H
    refine wt_nil ?_
    exact k5 (_, _, _, _, _, _, _) a _ (trivial) (S.sel [3, 0, 1, 2, 4, 5] rfl rfl) (H.keep [7, 8, 2, 3, 4] rfl)
 clear SR H S a
 intro xm a wm hp S H
 obtain ⟨A5, c5, B5, d5, b5, A6, c6⟩ := xm
 replace H := H.keep [2, 3, 4, 7, 8] rfl
 replace S := S.drew
 refine seq_wq [(0, true), (1, true), (2, true), (3, true), (4, true), (5, true), (7, true), (6, false), (8, false), (9, false), (10, true), (11, true), (12, true), (13, true), (14, true)] (by kernel_rfl) (by kernel_rfl) (S.sel [0, 1, 2, 3, 4, 5] rfl rfl) fun K7 k7 => ?_
 refine qF H <| qd rfl (fun _ S => (does_loadBox agg_25 sz_25 rfl S (i := 0) rfl rfl)) <| qd rfl (fun _ S => (does_field fo_48_0 rfl)) <| qd rfl (fun _ S => does_load one_3 rfl (boxM.rd S (i := 4) rfl rfl)) <| qr 1 rfl <| qd rfl (fun _ S => (does_field fo_48_2 rfl)) <| qd rfl (fun _ S => does_load one_3 rfl (boxM.rd S (i := 4) rfl rfl)) <| qr 1 rfl <| qK ?_;clear H a;intro a H
 refine wq_eff rfl ?_
 refine list_build0 H rfl S sl_49 sz_76 (mvcell l) ?_;clear H a S;intro A14 _ a S H
 refine wpList_nil (And.intro (S.sel [1, 2, 3, 4, 5, 6] rfl rfl) ?_)
 refine wq_eff rfl ?_
 refine list_append H rfl S sl_49 sz_76 ze_76 by_76 rfl rfl (i := 0) rfl rfl rfl ((hml.now S)) (mv_one l) (by omega) (by omega) ?_;clear H a S;intro A15 c15 _ a S H
 rw [Nat.zero_add] at H
 replace S := S.recell (i := 0) (n := l.length) (cell' := mvcell l) (by simp only [Nat.zero_add]; rfl) (fun k j hk hj => by unfold capp; rw [if_neg (by omega)]; rfl)
 obtain ⟨lA, rfl⟩ : ∃ y, y = A15 := ⟨_, rfl⟩
 obtain ⟨lC, rfl⟩ : ∃ y, y = c15 := ⟨_, rfl⟩
 refine wpList_nil (And.intro (S.sel [1, 2, 3, 4, 5, 6] rfl rfl) ?_)
 refine wq_eff rfl ?_
 refine list_call H rfl rfl Try.func44 rfl rfl (ways_Outside pl ps A5 c5 xs B5 d5 out pe A6 c6 T0 l lA lC _ (ownM.inS S (i := 2) rfl) hpn (ownM.inS S (i := 3) rfl) hxn (ownM.inS S (i := 4) rfl) hpen (ownM.inS S (i := 0) rfl) hmn) ?_;clear H a
 rintro _ _ a ⟨rfl, S2⟩ H
 replace S := S.call S2;clear S2
 refine wpList_nil (And.intro (S.sel [1, 2, 3, 4, 5, 6] rfl rfl) ?_)
 refine qF H <| qr 5 rfl <| qK ?_;clear H a;intro a H
 refine wq_nil ?_
 refine k7 _ _ ?_
 clear k7 K7
 replace H := H.keep [2, 3, 4, 7, 8, 9, 10] rfl
 refine seq_list fun K8 k8 => ?_
 refine ls 8 H <| sd ((does_loadBox agg_25 sz_25 rfl S (i := 6) rfl rfl)) <| sf fo_48_0 rfl <| sl S 5 one_3 rfl rfl rfl <| sf fo_48_1 rfl <| sl S 5 one_23 rfl rfl rfl <| sf fo_48_2 rfl <| sl S 5 one_3 rfl rfl rfl <| sr 1 rfl <| sE ?_;clear H a;intro a H
 refine list_call H rfl rfl Try.func33 rfl rfl (ref_Outside pl ps PA pc xs XA xc out pe BA bc T0 l MA mc _ (hps.now S) hpn (hxs.now S) hxn (hpe.now S) hpen (hml.now S) hmn) ?_;clear H a
 rintro _ _ a ⟨rfl, S2⟩ H
 replace S := S.call S2;clear S2
 refine ls 5 H <| sr 5 rfl <| sE ?_;clear H a;intro a H
 refine k8 _ _ ?_;clear k8 K8
 refine wp_seq_k fun K9 k9 => ?_
 replace H := H.keep [3, 4, 7, 8, 9, 10, 11, 12] rfl
 refine sS H fun K10 k10=>sr 2 rfl <| sd (does_ne_f rfl rfl rfl) <| sr 1 rfl <| sy rfl <| sr 1 rfl <| sy rfl <| sr 1 rfl <| sy rfl <| sd (does_ne_f rfl rfl rfl) <| so rfl rfl rfl <| sE ?_;clear H a;intro a H
 refine k10 _ ?_;clear k10 K10
 refine cond_ H rfl (fun hc2 => ?_) (fun hc2 => ?_)
 ·skip
  skip
  cases hc2
 skip
 refine wp_skip ?_
 refine k9 _ _ ?_
 replace H := H.keep [3, 4, 7, 8] rfl
 refine seq_list fun K11 k11 => ?_
 refine ls 6 H <| sd ((does_loadBox agg_25 sz_25 rfl S (i := 1) rfl rfl)) <| sf fo_48_0 rfl <| sl S 5 one_3 rfl rfl rfl <| sr 1 rfl <| sf fo_48_2 rfl <| sl S 5 one_3 rfl rfl rfl <| sE ?_;clear H a;intro a H
 refine list_call H rfl rfl Try.func31 rfl rfl (ret_imp (ways_Plan pl ps A5 c5 xs B5 d5 out pe A6 c6 T0 _ (ownM.inS S (i := 2) rfl) hpn (ownM.inS S (i := 3) rfl) hxn (ownM.inS S (i := 4) rfl) hpen) (fun u w' h => plan_form h)) ?_;clear H a
 rintro _ _ a ⟨lp, A7, c7, ⟨rfl, hpz, hpg⟩, S2⟩ H
 replace S := S.call S2;clear S2
 refine ls 5 H <| sr 5 rfl <| sE ?_;clear H a;intro a H
 refine k11 _ _ ?_;clear k11 K11
 replace H := H.keep [3, 4, 10, 13] rfl
 refine seq_list fun K12 k12 => ?_
 refine ls 7 H <| sd ((does_loadBox agg_25 sz_25 rfl S (i := 7) rfl rfl)) <| sf fo_48_0 rfl <| sl S 6 one_3 rfl rfl rfl <| sf fo_48_1 rfl <| sl S 6 one_23 rfl rfl rfl <| sf fo_48_2 rfl <| sl S 6 one_3 rfl rfl rfl <| sE ?_;clear H a;intro a H
 refine list_call H rfl rfl Try.func37 rfl rfl (ret_imp (ref_Left pl ps PA pc xs XA xc out pe BA bc T0 _ (hps.now S) hpn (hxs.now S) hxn (hpe.now S) hpen) (fun u w' h => left_form h)) ?_;clear H a
 rintro _ _ a ⟨rfl, S2⟩ H
 replace S := S.call S2;clear S2
 refine ls 5 H <| sr 5 rfl <| sE ?_;clear H a;intro a H
 refine k12 _ _ ?_;clear k12 K12
 refine wp_seq_k fun K13 k13 => ?_
 replace H := H.keep [3, 4, 10, 12, 13, 14] rfl
 refine sS H fun K14 k14=>sr 2 rfl <| sd (does_ne_f rfl rfl left_snd) <| sE ?_;clear H a;intro a H
 refine k14 _ ?_;clear k14 K14
 refine cond_ H rfl (fun hc3 => ?_) (fun hc3 => ?_)
 ·skip
  skip
  cases hc3
 skip
 refine wp_skip ?_
 refine k13 _ _ ?_
 refine wp_seq_k fun K15 k15 => ?_
 refine sS H fun K16 k16=>sr 2 rfl <| sE ?_;clear H a;intro a H
 refine k16 _ ?_;clear k16 K16
 refine condN H rfl (fun hc4 => ?_) (fun hc4 => ?_)
 ·skip
  have hl0 : ((lp.length : Nat) : Int) = 0 := by rw [hpz hc4]; rfl
  replace H := H.keep [13] rfl
  refine seq_list fun K17 k17 => ?_
  refine ls 4 H <| sr 1 rfl <| sL sl_49 rfl <| sd (does_eq_t rfl rfl hl0) <| sr 1 rfl <| sE ?_;clear H a;intro a H
  refine list_yes H rfl rfl ?_
  refine list_call H rfl rfl Try.func15 rfl rfl (law_works _) ?_;clear H a
  rintro _ _ a ⟨rfl, S2⟩ H
  replace S := S.call S2;clear S2
  refine ls 2 H <| sa rfl rfl rfl <| sr 1 rfl <| sE ?_;clear H a;intro a H
  refine k17 _ _ ?_;clear k17 K17
  refine wp_ret ?_
  refine ret1 (fn := Try.f12) rfl H rfl ?_
  exact ⟨rfl, (S.sel [] rfl rfl)⟩
 have hlv : leaveE pl ps xs out pe T0 = 0 := by omega
 obtain ⟨hp1, hp2, hp3, hp4⟩ := hpg hlv
 obtain ⟨hst, hou, hcr, hti⟩ := leaveE_ok hlv
 have hV0 := st_valid hst
 obtain ⟨P, rfl⟩ : ∃ P : Nat, pl = P := ⟨pl.toNat, by have := hV0.size; omega⟩
 have hV := hV0
 obtain ⟨hpp, hpl'⟩ := crowd_ok hcr
 have hpl : pe.length = P := by omega
 obtain ⟨T, rfl⟩ : ∃ T : Nat, T0 = T := ⟨T0.toNat, by omega⟩
 have hT : T ≤ 60 := by omega
 have hP10 := hV.size
 have hpk : PeOk pe := hpp
 rw [Int.toNat_natCast] at hp1
 rw [Int.toNat_natCast, Int.toNat_natCast] at hp2
 refine wp_skip ?_
 refine k15 _ _ ?_
 refine wp_seq_k fun K18 k18 => ?_
 refine sS H fun K19 k19=>sr 1 rfl <| sE ?_;clear H a;intro a H
 refine k19 _ ?_;clear k19 K19
 refine wp_block ?_
 refine loop_st (X := Nat) (R0 := _) [3, 4, 13, 14] H rfl (fun i => [(15, .int .i64 (i : Int))]) (fun i => []) (fun g i => i ≤ lp.length ∧ g + i = lp.length) (lp.length) 0 ?_ (S.sel [0, 1, 2, 3, 4, 5, 6, 7] rfl rfl) (H.keep [15, 3, 4, 13, 14] rfl) ?_
 · exact ⟨by omega, by omega⟩
 clear H S a
 intro g1 x1 a w1 hp S H K20 k20
 obtain ⟨i, rfl⟩ : ∃ y, y = x1 := ⟨_, rfl⟩
 refine wp_seq_k fun K21 k21 => ?_
 refine sS H fun K22 k22=>sr 2 rfl <| sL sl_49 rfl <| sr 1 rfl <| sE ?_;clear H a;intro a H
 refine k22 _ ?_;clear k22 K22
 refine condL H rfl (fun hc5 => ?_) (fun hc5 => ?_)
 ·skip
  refine wp_skip ?_
  refine k21 _ _ ?_
  refine wp_seq_k fun K23 k23 => ?_
  refine wp_block ?_
  replace H := H.keep [3, 4, 13, 14, 15] rfl
  replace S := S.drew
  refine sD H fun K24 k24=>sr 2 rfl <| si sl_49 sz_76 rfl rfl (ownM.adr S (i := 0) rfl (by omega)) (by omega) <| sp fo_76_2 rfl <| slm one_3 rfl (ownM.rd S (i := 0) rfl (by omega) (by omega)) <| sf fo_48_2 rfl <| sl S 6 one_3 rfl rfl rfl <| sr 1 rfl <| sE ?_;clear H a;intro a H
  refine k24 _ ?_;clear k24 K24
  refine condL H rfl (fun hc6 => ?_) (fun hc6 => ?_)
  ·skip
   exfalso
   have h9 := hp4 i (by omega)
   omega
  refine wp_skip ?_
  refine k23 _ _ ?_
  replace H := H.keep [3, 4, 13, 14, 15] rfl
  refine sO H <| sr 1 rfl <| sd (does_add rfl rfl (by unfold i64ok; omega)) <| sr 1 rfl <| sE ?_;clear H a;intro a H
  exact k20 (g1 - 1) (i + 1) a _ (by omega) (⟨by omega, by omega⟩) (S.sel [0, 1, 2, 3, 4, 5, 6, 7] rfl rfl) (H.keep [15, 3, 4, 13, 14] rfl)
 refine wp_exit ?_
 refine k18 _ _ ?_
 replace H := H.keep [3, 4, 13, 14] rfl
 refine seq_list fun K26 k26 => ?_
 refine ls 8 H <| sd ((does_loadBox agg_25 sz_25 rfl S (i := 7) rfl rfl)) <| sf fo_48_0 rfl <| sl S 6 one_3 rfl rfl rfl <| sf fo_48_1 rfl <| sl S 6 one_23 rfl rfl rfl <| sf fo_48_2 rfl <| sl S 6 one_3 rfl rfl rfl <| sr 1 rfl <| sE ?_;clear H a;intro a H
 refine list_call H rfl rfl Try.func33 rfl rfl (ref_Outside P ps PA pc xs XA xc out pe BA bc T lp A7 c7 _ (hps.now S) hpn (hxs.now S) hxn (hpe.now S) hpen (ownM.inS S (i := 0) rfl) (by omega)) ?_;clear H a
 rintro _ _ a ⟨rfl, S2⟩ H
 replace S := S.call S2;clear S2
 rw [outV_ok hlv (by omega) hp1, hp2] at H
 refine ls 5 H <| sr 5 rfl <| sE ?_;clear H a;intro a H
 refine k26 _ _ ?_;clear k26 K26
 replace H := H.keep [9, 10, 14] rfl
 refine seq_list fun K27 k27 => ?_
 refine ls 8 H <| sr 1 rfl <| sd (does_eq_t rfl rfl rfl) <| sr 1 rfl <| sy rfl <| sr 1 rfl <| sy rfl <| sr 1 rfl <| sy rfl <| sd (does_eq_t rfl rfl (left_ok hlv).symm) <| sa rfl rfl rfl <| sr 1 rfl <| sE ?_;clear H a;intro a H
 refine list_yes H rfl rfl ?_
 refine list_call H rfl rfl Try.func15 rfl rfl (law_works _) ?_;clear H a
 rintro _ _ a ⟨rfl, S2⟩ H
 replace S := S.call S2;clear S2
 refine ls 2 H <| sa rfl rfl rfl <| sr 1 rfl <| sE ?_;clear H a;intro a H
 refine k27 _ _ ?_;clear k27 K27
 refine wp_ret ?_
 refine ret1 (fn := Try.f12) rfl H rfl ?_
 exact ⟨rfl, (S.sel [] rfl rfl)⟩

end Go.Proofs.Ytlmddkekeoebcaa
