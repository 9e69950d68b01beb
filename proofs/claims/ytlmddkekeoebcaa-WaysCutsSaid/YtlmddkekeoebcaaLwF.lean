/- LwF. Printed by gen.py. -/
import Derived.Test.YtlmddkekeoebcaaLwE
import Derived.Test.YtlmddkekeoebcaaRfE
namespace Go.Proofs.Ytlmddkekeoebcaa
open Go.RowKit
set_option linter.unusedVariables false
set_option linter.unusedSimpArgs false
set_option maxRecDepth 100000
set_option maxHeartbeats 4000000


theorem law_WaysCuts (pl : Int) (ps : List Psg) (PA : Option Addr) (pc : Nat) (xs : List Int) (XA : Option Addr) (xc : Nat) (out : Int) (pe : List Int) (BA : Option Addr) (bc : Nat) (T0 : Int) (bl : List Int) (DA : Option Addr) (dc : Nat) (w : World) (hps : InS w noF 7 PA ps.length (pcell ps)) (hpn8 : 56 * ps.length ≤ 140737488355328) (hxs : InS w noF 1 XA xs.length (icl xs)) (hxn8 : 8 * xs.length ≤ 140737488355328) (hpe : InS w noF 1 BA pe.length (icl pe)) (hpe8 : 8 * pe.length ≤ 140737488355328) (hbar : InS w noF 1 DA bl.length (icl bl)) (hb8 : 8 * bl.length ≤ 140737488355328) :
    Calls Try.prog 7 [.agg [.int .i64 pl, .slice PA ps.length pc, .slice XA xs.length xc].toArray, .agg [.int .i64 out, .slice BA pe.length bc, .int .i64 T0].toArray, .slice DA bl.length dc].toArray w (Ret (fun u w' => u = .bool true ∧ St w noF [] w')) := by
 have hpn : ps.length ≤ 9223372036854775807 := by omega
 have hxn : xs.length ≤ 9223372036854775807 := by omega
 have hpen : pe.length ≤ 9223372036854775807 := by omega
 have hbn : bl.length ≤ 9223372036854775807 := by omega
 refine enter Try.func7 rfl Try.ntmps7 rfl (fun a H => ?_)
 have S := St.start w
 refine seq_list fun K1 k1 => ?_
 refine list_box H rfl S rfl rfl ?_;clear H a S;intro b3 _ a hb3 hbw3 S H
 refine list_box H rfl S rfl rfl ?_;clear H a S;intro b4 _ a hb4 hbw4 S H
 refine ls 1 H <| sr 1 rfl <| sE ?_;clear H a;intro a H
 refine k1 _ _ ?_;clear k1 K1
 refine wp_seq_k fun K2 k2 => ?_
 refine seq_list fun K3 k3 => ?_
 refine list_does H rfl ((by first | (exact does_loadBox agg_25 sz_25 rfl S (i := 0) rfl rfl; trace "ALT law_WaysCuts 1.0.1 0") | (exact does_loadBox agg_25 sz_25 rfl S (i := 1) rfl rfl; trace "ALT law_WaysCuts 1.0.1 1"))) ?_;clear H a;intro a H
 refine list_does H rfl ((by first | (exact does_field_pt fo_48_1 rfl; trace "ALT law_WaysCuts 1.1.1 0") | (exact does_field fo_48_1 rfl; trace "ALT law_WaysCuts 1.1.1 1"))) ?_;clear H a;intro a H
 refine list_does H rfl (does_load one_23 rfl (by first | (exact boxM.rd S (i := 0) rfl rfl; trace "ALT law_WaysCuts 1.2.1 0") | (exact boxM.rd S (i := 1) rfl rfl; trace "ALT law_WaysCuts 1.2.1 1"))) ?_;clear H a;intro a H
 refine list_does H rfl ((by first | (exact does_field_pt fo_48_2 rfl; trace "ALT law_WaysCuts 1.3.1 0") | (exact does_field fo_48_2 rfl; trace "ALT law_WaysCuts 1.3.1 1"))) ?_;clear H a;intro a H
 refine list_does H rfl (does_load one_3 rfl (by first | (exact boxM.rd S (i := 0) rfl rfl; trace "ALT law_WaysCuts 1.4.1 0") | (exact boxM.rd S (i := 1) rfl rfl; trace "ALT law_WaysCuts 1.4.1 1"))) ?_;clear H a;intro a H
 refine list_call H rfl rfl Try.func28 rfl rfl (law_Crowded pl ps PA pc xs XA xc pe BA bc T0 _ (hps.now S) hpn (hxs.now S) hxn (hpe.now S) hpen) ?_;clear H a
 rintro _ _ a ⟨cb, rfl, hcb, S2⟩ H
 replace S := S.call S2;clear S2
 refine k3 _ _ ?_;clear k3 K3
 refine cond_ H rfl (fun hc1 => ?_) (fun hc1 => ?_)
 ·skip
  try simp only [o1,o2,o3,o4,o5,o6,o7,o8,o9,oa] at hc1
  skip
  replace H := H.keep [] rfl
  refine seq_list fun K4 k4 => ?_
  refine list_call H rfl rfl Try.func15 rfl rfl (law_works _) ?_;clear H a
  rintro _ _ a ⟨rfl, S2⟩ H
  replace S := S.call S2;clear S2
  refine ls 1 H <| sr 1 rfl <| sE ?_;clear H a;intro a H
  refine k4 _ _ ?_;clear k4 K4
  refine wp_ret ?_
  refine ret1 (fn := Try.f7) rfl H rfl ?_
  exact ⟨rfl, (S.sel [] rfl rfl)⟩
 try simp only [o1,o2,o3,o4,o5,o6,o7,o8,o9,oa] at hc1
 have hsm := hcb hc1
 refine wp_skip ?_
 refine k2 _ _ ?_
 have SR := (S.sel [0, 1] rfl rfl)
 refine meet_sr (X := Option Addr × Nat × Option Addr × Nat × Nat × Option Addr × Nat) [2, 3, 4] H rfl (fun ⟨A5, c5, B5, d5, b5, A6, c6⟩ => [(7, .pointer (some ⟨b5, 0, none⟩)), (8, .slice A6 pe.length c6)]) (fun ⟨A5, c5, B5, d5, b5, A6, c6⟩ => [boxM b5 25 [.int .i64 pl, .slice A5 ps.length c5, .slice B5 xs.length d5], ownM 45 7 A5 ps.length c5 (pcell ps), ownM 3 1 B5 xs.length d5 (icl xs), ownM 3 1 A6 pe.length c6 (icl pe)]) (fun ⟨A5, c5, B5, d5, b5, A6, c6⟩ => True) SR (fun K5 k5 => ?_) ?_
 ·skip
  replace H := H.keep [2, 3, 4] rfl
  replace S := S.drew
  refine one_wt 999 (.q 0 (.q 3 (.q 4 (.b3 1 (.b2 2 (.b2 5 (.e 6 (.e 7 (.q 8 .nil))) 6 (.e 5 (.e 7 (.q 8 .nil)))) 6 (.e 2 (.e 5 (.e 7 (.q 8 .nil))))) 2 (.b2 1 (.b2 5 (.e 6 (.e 7 (.q 8 .nil))) 6 (.e 5 (.e 7 (.q 8 .nil)))) 6 (.e 1 (.e 5 (.e 7 (.q 8 .nil))))) 6 (.b2 1 (.e 2 (.e 5 (.e 7 (.q 8 .nil)))) 2 (.e 1 (.e 5 (.e 7 (.q 8 .nil))))))))) (by kernel_rfl) (by kernel_rfl) (S.sel [0, 1] rfl rfl) ?_
  refine wt_does H rfl rfl (fun _ S => (by first | (exact does_loadBox agg_25 sz_25 rfl S (i := 0) rfl rfl; trace "ALT law_WaysCuts 3.0.1 0") | (exact does_loadBox agg_25 sz_25 rfl S (i := 1) rfl rfl; trace "ALT law_WaysCuts 3.0.1 1"))) ?_;clear H a;intro a H
  refine wt_does H rfl rfl (fun _ S => (by first | (exact does_field_pt fo_48_1 rfl; trace "ALT law_WaysCuts 3.3.1 0") | (exact does_field fo_48_1 rfl; trace "ALT law_WaysCuts 3.3.1 1"))) ?_;clear H a;intro a H
  refine wt_does H rfl rfl (fun _ S => does_load one_23 rfl (by first | (exact boxM.rd S (i := 0) rfl rfl; trace "ALT law_WaysCuts 3.4.1 0") | (exact boxM.rd S (i := 1) rfl rfl; trace "ALT law_WaysCuts 3.4.1 1"))) ?_;clear H a;intro a H
  refine wt_b3 rfl rfl rfl ?_ ?_ ?_
  ·skip
   refine list_call H rfl rfl Try.func17 rfl rfl (ref_Copy pl ps PA pc xs XA xc _ (hps.now S) hpn (hxs.now S) hxn hpn8 hxn8) ?_;clear H a
   rintro _ _ a ⟨A5, c5, B5, d5, rfl, S2⟩ H
   replace S := S.call S2;clear S2
   refine wpList_nil (And.intro (Or.inr (S.sel [2, 3] rfl rfl)) ?_)
   refine wt_b2 rfl rfl ?_ ?_
   ·skip
    refine list_build0 H rfl S sl_23 sz_3 (icl pe) ?_;clear H a S;intro A1 _ a S H
    refine wpList_nil (And.intro (Or.inr (S.sel [3, 4] rfl rfl)) ?_)
    refine wt_b2 rfl rfl ?_ ?_
    ·skip
     refine list_append H rfl S sl_23 sz_3 ze_3 by_3 rfl rfl (i := 0) rfl rfl rfl ((hpe.now S)) (fun _ _ _ _ => rfl) (by omega) (by omega) ?_;clear H a S;intro A2 c2 _ a S H
     rw [Nat.zero_add] at H
     replace S := S.recell (i := 0) (n := pe.length) (cell' := icl pe) (by simp only [Nat.zero_add]; rfl) (fun k j hk hj => by unfold capp; rw [if_neg (by omega)]; rfl)
     refine wpList_nil (And.intro (Or.inr (S.sel [3, 4] rfl rfl)) ?_)
     refine wt_eff rfl ?_
     refine list_alloc H rfl S ze_25 ?_;clear H a S;intro b7 _ a hb7 hbw7 S H
     refine wpList_nil (And.intro (Or.inr (S.sel [4, 5] rfl rfl)) ?_)
     refine wt_eff rfl ?_
     first | (refine list_store H S (i := 0) rfl rfl rfl rfl sz_25 rfl rfl ?_; trace "ALT law_WaysCuts 3.7.1 0") | (refine list_store H S (i := 1) rfl rfl rfl rfl sz_25 rfl rfl ?_; trace "ALT law_WaysCuts 3.7.1 1") | (refine list_store H S (i := 2) rfl rfl rfl rfl sz_25 rfl rfl ?_; trace "ALT law_WaysCuts 3.7.1 2") | (refine list_store H S (i := 3) rfl rfl rfl rfl sz_25 rfl rfl ?_; trace "ALT law_WaysCuts 3.7.1 3") | (refine list_store H S (i := 4) rfl rfl rfl rfl sz_25 rfl rfl ?_; trace "ALT law_WaysCuts 3.7.1 4") | (refine list_store H S (i := 5) rfl rfl rfl rfl sz_25 rfl rfl ?_; trace "ALT law_WaysCuts 3.7.1 5") | (refine list_store_own H S (i := 0) rfl rfl rfl (by omega) (by omega) sz_25 rfl ?_; trace "ALT law_WaysCuts 3.7.1 6") | (refine list_store_own H S (i := 1) rfl rfl rfl (by omega) (by omega) sz_25 rfl ?_; trace "ALT law_WaysCuts 3.7.1 7") | (refine list_store_own H S (i := 2) rfl rfl rfl (by omega) (by omega) sz_25 rfl ?_; trace "ALT law_WaysCuts 3.7.1 8") | (refine list_store_own H S (i := 3) rfl rfl rfl (by omega) (by omega) sz_25 rfl ?_; trace "ALT law_WaysCuts 3.7.1 9") | (refine list_store_own H S (i := 4) rfl rfl rfl (by omega) (by omega) sz_25 rfl ?_; trace "ALT law_WaysCuts 3.7.1 10") | (refine list_store_own H S (i := 5) rfl rfl rfl (by omega) (by omega) sz_25 rfl ?_; trace "ALT law_WaysCuts 3.7.1 11")
     clear H a S;intro _ a S H
     refine wpList_nil (And.intro (Or.inr (S.sel [4, 5] rfl rfl)) ?_)
     refine wt_does H rfl rfl (fun _ S => does_assign rfl) ?_;clear H a;intro a H
     refine wt_nil ?_
     exact k5 (_, _, _, _, _, _, _) a _ (trivial) (S.sel [0, 2, 3, 1, 4, 5] rfl rfl) (H.keep [7, 8, 2, 3, 4] rfl)
    ·skip
     refine list_alloc H rfl S ze_25 ?_;clear H a S;intro b7 _ a hb7 hbw7 S H
     refine wpList_nil (And.intro (Or.inr (S.sel [4, 5] rfl rfl)) ?_)
     refine wt_eff rfl ?_
     refine list_append H rfl S sl_23 sz_3 ze_3 by_3 rfl rfl (i := 1) rfl rfl rfl ((hpe.now S)) (fun _ _ _ _ => rfl) (by omega) (by omega) ?_;clear H a S;intro A3 c3 _ a S H
     rw [Nat.zero_add] at H
     replace S := S.recell (i := 1) (n := pe.length) (cell' := icl pe) (by simp only [Nat.zero_add]; rfl) (fun k j hk hj => by unfold capp; rw [if_neg (by omega)]; rfl)
     refine wpList_nil (And.intro (Or.inr (S.sel [4, 5] rfl rfl)) ?_)
     refine wt_eff rfl ?_
     first | (refine list_store H S (i := 0) rfl rfl rfl rfl sz_25 rfl rfl ?_; trace "ALT law_WaysCuts 3.7.2 0") | (refine list_store H S (i := 1) rfl rfl rfl rfl sz_25 rfl rfl ?_; trace "ALT law_WaysCuts 3.7.2 1") | (refine list_store H S (i := 2) rfl rfl rfl rfl sz_25 rfl rfl ?_; trace "ALT law_WaysCuts 3.7.2 2") | (refine list_store H S (i := 3) rfl rfl rfl rfl sz_25 rfl rfl ?_; trace "ALT law_WaysCuts 3.7.2 3") | (refine list_store H S (i := 4) rfl rfl rfl rfl sz_25 rfl rfl ?_; trace "ALT law_WaysCuts 3.7.2 4") | (refine list_store H S (i := 5) rfl rfl rfl rfl sz_25 rfl rfl ?_; trace "ALT law_WaysCuts 3.7.2 5") | (refine list_store_own H S (i := 0) rfl rfl rfl (by omega) (by omega) sz_25 rfl ?_; trace "ALT law_WaysCuts 3.7.2 6") | (refine list_store_own H S (i := 1) rfl rfl rfl (by omega) (by omega) sz_25 rfl ?_; trace "ALT law_WaysCuts 3.7.2 7") | (refine list_store_own H S (i := 2) rfl rfl rfl (by omega) (by omega) sz_25 rfl ?_; trace "ALT law_WaysCuts 3.7.2 8") | (refine list_store_own H S (i := 3) rfl rfl rfl (by omega) (by omega) sz_25 rfl ?_; trace "ALT law_WaysCuts 3.7.2 9") | (refine list_store_own H S (i := 4) rfl rfl rfl (by omega) (by omega) sz_25 rfl ?_; trace "ALT law_WaysCuts 3.7.2 10") | (refine list_store_own H S (i := 5) rfl rfl rfl (by omega) (by omega) sz_25 rfl ?_; trace "ALT law_WaysCuts 3.7.2 11")
     clear H a S;intro _ a S H
     refine wpList_nil (And.intro (Or.inr (S.sel [4, 5] rfl rfl)) ?_)
     refine wt_does H rfl rfl (fun _ S => does_assign rfl) ?_;clear H a;intro a H
     refine wt_nil ?_
     exact k5 (_, _, _, _, _, _, _) a _ (trivial) (S.sel [0, 2, 3, 1, 4, 5] rfl rfl) (H.keep [7, 8, 2, 3, 4] rfl)
   ·skip
    refine list_alloc H rfl S ze_25 ?_;clear H a S;intro b7 _ a hb7 hbw7 S H
    refine wpList_nil (And.intro (Or.inr (S.sel [3, 4] rfl rfl)) ?_)
    refine wt_eff rfl ?_
    refine list_build0 H rfl S sl_23 sz_3 (icl pe) ?_;clear H a S;intro A4 _ a S H
    refine wpList_nil (And.intro (Or.inr (S.sel [4, 5] rfl rfl)) ?_)
    refine wt_eff rfl ?_
    refine list_append H rfl S sl_23 sz_3 ze_3 by_3 rfl rfl (i := 0) rfl rfl rfl ((hpe.now S)) (fun _ _ _ _ => rfl) (by omega) (by omega) ?_;clear H a S;intro A5 c5 _ a S H
    rw [Nat.zero_add] at H
    replace S := S.recell (i := 0) (n := pe.length) (cell' := icl pe) (by simp only [Nat.zero_add]; rfl) (fun k j hk hj => by unfold capp; rw [if_neg (by omega)]; rfl)
    refine wpList_nil (And.intro (Or.inr (S.sel [4, 5] rfl rfl)) ?_)
    refine wt_eff rfl ?_
    first | (refine list_store H S (i := 0) rfl rfl rfl rfl sz_25 rfl rfl ?_; trace "ALT law_WaysCuts 3.7.3 0") | (refine list_store H S (i := 1) rfl rfl rfl rfl sz_25 rfl rfl ?_; trace "ALT law_WaysCuts 3.7.3 1") | (refine list_store H S (i := 2) rfl rfl rfl rfl sz_25 rfl rfl ?_; trace "ALT law_WaysCuts 3.7.3 2") | (refine list_store H S (i := 3) rfl rfl rfl rfl sz_25 rfl rfl ?_; trace "ALT law_WaysCuts 3.7.3 3") | (refine list_store H S (i := 4) rfl rfl rfl rfl sz_25 rfl rfl ?_; trace "ALT law_WaysCuts 3.7.3 4") | (refine list_store H S (i := 5) rfl rfl rfl rfl sz_25 rfl rfl ?_; trace "ALT law_WaysCuts 3.7.3 5") | (refine list_store_own H S (i := 0) rfl rfl rfl (by omega) (by omega) sz_25 rfl ?_; trace "ALT law_WaysCuts 3.7.3 6") | (refine list_store_own H S (i := 1) rfl rfl rfl (by omega) (by omega) sz_25 rfl ?_; trace "ALT law_WaysCuts 3.7.3 7") | (refine list_store_own H S (i := 2) rfl rfl rfl (by omega) (by omega) sz_25 rfl ?_; trace "ALT law_WaysCuts 3.7.3 8") | (refine list_store_own H S (i := 3) rfl rfl rfl (by omega) (by omega) sz_25 rfl ?_; trace "ALT law_WaysCuts 3.7.3 9") | (refine list_store_own H S (i := 4) rfl rfl rfl (by omega) (by omega) sz_25 rfl ?_; trace "ALT law_WaysCuts 3.7.3 10") | (refine list_store_own H S (i := 5) rfl rfl rfl (by omega) (by omega) sz_25 rfl ?_; trace "ALT law_WaysCuts 3.7.3 11")
    clear H a S;intro _ a S H
    refine wpList_nil (And.intro (Or.inr (S.sel [4, 5] rfl rfl)) ?_)
    refine wt_does H rfl rfl (fun _ S => does_assign rfl) ?_;clear H a;intro a H
    refine wt_nil ?_
    exact k5 (_, _, _, _, _, _, _) a _ (trivial) (S.sel [1, 2, 3, 0, 4, 5] rfl rfl) (H.keep [7, 8, 2, 3, 4] rfl)
  ·skip
   refine list_build0 H rfl S sl_23 sz_3 (icl pe) ?_;clear H a S;intro A6 _ a S H
   refine wpList_nil (And.intro (Or.inr (S.sel [1, 2] rfl rfl)) ?_)
   refine wt_b2 rfl rfl ?_ ?_
   ·skip
    refine list_call H rfl rfl Try.func17 rfl rfl (ref_Copy pl ps PA pc xs XA xc _ (hps.now S) hpn (hxs.now S) hxn hpn8 hxn8) ?_;clear H a
    rintro _ _ a ⟨A5, c5, B5, d5, rfl, S2⟩ H
    replace S := S.call S2;clear S2
    refine wpList_nil (And.intro (Or.inr (S.sel [3, 4] rfl rfl)) ?_)
    refine wt_b2 rfl rfl ?_ ?_
    ·skip
     refine list_append H rfl S sl_23 sz_3 ze_3 by_3 rfl rfl (i := 2) rfl rfl rfl ((hpe.now S)) (fun _ _ _ _ => rfl) (by omega) (by omega) ?_;clear H a S;intro A7 c7 _ a S H
     rw [Nat.zero_add] at H
     replace S := S.recell (i := 2) (n := pe.length) (cell' := icl pe) (by simp only [Nat.zero_add]; rfl) (fun k j hk hj => by unfold capp; rw [if_neg (by omega)]; rfl)
     refine wpList_nil (And.intro (Or.inr (S.sel [3, 4] rfl rfl)) ?_)
     refine wt_eff rfl ?_
     refine list_alloc H rfl S ze_25 ?_;clear H a S;intro b7 _ a hb7 hbw7 S H
     refine wpList_nil (And.intro (Or.inr (S.sel [4, 5] rfl rfl)) ?_)
     refine wt_eff rfl ?_
     first | (refine list_store H S (i := 0) rfl rfl rfl rfl sz_25 rfl rfl ?_; trace "ALT law_WaysCuts 3.7.4 0") | (refine list_store H S (i := 1) rfl rfl rfl rfl sz_25 rfl rfl ?_; trace "ALT law_WaysCuts 3.7.4 1") | (refine list_store H S (i := 2) rfl rfl rfl rfl sz_25 rfl rfl ?_; trace "ALT law_WaysCuts 3.7.4 2") | (refine list_store H S (i := 3) rfl rfl rfl rfl sz_25 rfl rfl ?_; trace "ALT law_WaysCuts 3.7.4 3") | (refine list_store H S (i := 4) rfl rfl rfl rfl sz_25 rfl rfl ?_; trace "ALT law_WaysCuts 3.7.4 4") | (refine list_store H S (i := 5) rfl rfl rfl rfl sz_25 rfl rfl ?_; trace "ALT law_WaysCuts 3.7.4 5") | (refine list_store_own H S (i := 0) rfl rfl rfl (by omega) (by omega) sz_25 rfl ?_; trace "ALT law_WaysCuts 3.7.4 6") | (refine list_store_own H S (i := 1) rfl rfl rfl (by omega) (by omega) sz_25 rfl ?_; trace "ALT law_WaysCuts 3.7.4 7") | (refine list_store_own H S (i := 2) rfl rfl rfl (by omega) (by omega) sz_25 rfl ?_; trace "ALT law_WaysCuts 3.7.4 8") | (refine list_store_own H S (i := 3) rfl rfl rfl (by omega) (by omega) sz_25 rfl ?_; trace "ALT law_WaysCuts 3.7.4 9") | (refine list_store_own H S (i := 4) rfl rfl rfl (by omega) (by omega) sz_25 rfl ?_; trace "ALT law_WaysCuts 3.7.4 10") | (refine list_store_own H S (i := 5) rfl rfl rfl (by omega) (by omega) sz_25 rfl ?_; trace "ALT law_WaysCuts 3.7.4 11")
     clear H a S;intro _ a S H
     refine wpList_nil (And.intro (Or.inr (S.sel [4, 5] rfl rfl)) ?_)
     refine wt_does H rfl rfl (fun _ S => does_assign rfl) ?_;clear H a;intro a H
     refine wt_nil ?_
     exact k5 (_, _, _, _, _, _, _) a _ (trivial) (S.sel [0, 1, 2, 3, 4, 5] rfl rfl) (H.keep [7, 8, 2, 3, 4] rfl)
    ·skip
     refine list_alloc H rfl S ze_25 ?_;clear H a S;intro b7 _ a hb7 hbw7 S H
     refine wpList_nil (And.intro (Or.inr (S.sel [4, 5] rfl rfl)) ?_)
     refine wt_eff rfl ?_
     refine list_append H rfl S sl_23 sz_3 ze_3 by_3 rfl rfl (i := 3) rfl rfl rfl ((hpe.now S)) (fun _ _ _ _ => rfl) (by omega) (by omega) ?_;clear H a S;intro A8 c8 _ a S H
     rw [Nat.zero_add] at H
     replace S := S.recell (i := 3) (n := pe.length) (cell' := icl pe) (by simp only [Nat.zero_add]; rfl) (fun k j hk hj => by unfold capp; rw [if_neg (by omega)]; rfl)
     refine wpList_nil (And.intro (Or.inr (S.sel [4, 5] rfl rfl)) ?_)
     refine wt_eff rfl ?_
     first | (refine list_store H S (i := 0) rfl rfl rfl rfl sz_25 rfl rfl ?_; trace "ALT law_WaysCuts 3.7.5 0") | (refine list_store H S (i := 1) rfl rfl rfl rfl sz_25 rfl rfl ?_; trace "ALT law_WaysCuts 3.7.5 1") | (refine list_store H S (i := 2) rfl rfl rfl rfl sz_25 rfl rfl ?_; trace "ALT law_WaysCuts 3.7.5 2") | (refine list_store H S (i := 3) rfl rfl rfl rfl sz_25 rfl rfl ?_; trace "ALT law_WaysCuts 3.7.5 3") | (refine list_store H S (i := 4) rfl rfl rfl rfl sz_25 rfl rfl ?_; trace "ALT law_WaysCuts 3.7.5 4") | (refine list_store H S (i := 5) rfl rfl rfl rfl sz_25 rfl rfl ?_; trace "ALT law_WaysCuts 3.7.5 5") | (refine list_store_own H S (i := 0) rfl rfl rfl (by omega) (by omega) sz_25 rfl ?_; trace "ALT law_WaysCuts 3.7.5 6") | (refine list_store_own H S (i := 1) rfl rfl rfl (by omega) (by omega) sz_25 rfl ?_; trace "ALT law_WaysCuts 3.7.5 7") | (refine list_store_own H S (i := 2) rfl rfl rfl (by omega) (by omega) sz_25 rfl ?_; trace "ALT law_WaysCuts 3.7.5 8") | (refine list_store_own H S (i := 3) rfl rfl rfl (by omega) (by omega) sz_25 rfl ?_; trace "ALT law_WaysCuts 3.7.5 9") | (refine list_store_own H S (i := 4) rfl rfl rfl (by omega) (by omega) sz_25 rfl ?_; trace "ALT law_WaysCuts 3.7.5 10") | (refine list_store_own H S (i := 5) rfl rfl rfl (by omega) (by omega) sz_25 rfl ?_; trace "ALT law_WaysCuts 3.7.5 11")
     clear H a S;intro _ a S H
     refine wpList_nil (And.intro (Or.inr (S.sel [4, 5] rfl rfl)) ?_)
     refine wt_does H rfl rfl (fun _ S => does_assign rfl) ?_;clear H a;intro a H
     refine wt_nil ?_
     exact k5 (_, _, _, _, _, _, _) a _ (trivial) (S.sel [0, 1, 2, 3, 4, 5] rfl rfl) (H.keep [7, 8, 2, 3, 4] rfl)
   ·skip
    refine list_alloc H rfl S ze_25 ?_;clear H a S;intro b7 _ a hb7 hbw7 S H
    refine wpList_nil (And.intro (Or.inr (S.sel [2, 3] rfl rfl)) ?_)
    refine wt_eff rfl ?_
    refine list_call H rfl rfl Try.func17 rfl rfl (ref_Copy pl ps PA pc xs XA xc _ (hps.now S) hpn (hxs.now S) hxn hpn8 hxn8) ?_;clear H a
    rintro _ _ a ⟨A5, c5, B5, d5, rfl, S2⟩ H
    replace S := S.call S2;clear S2
    refine wpList_nil (And.intro (Or.inr (S.sel [4, 5] rfl rfl)) ?_)
    refine wt_eff rfl ?_
    refine list_append H rfl S sl_23 sz_3 ze_3 by_3 rfl rfl (i := 3) rfl rfl rfl ((hpe.now S)) (fun _ _ _ _ => rfl) (by omega) (by omega) ?_;clear H a S;intro A9 c9 _ a S H
    rw [Nat.zero_add] at H
    replace S := S.recell (i := 3) (n := pe.length) (cell' := icl pe) (by simp only [Nat.zero_add]; rfl) (fun k j hk hj => by unfold capp; rw [if_neg (by omega)]; rfl)
    refine wpList_nil (And.intro (Or.inr (S.sel [4, 5] rfl rfl)) ?_)
    refine wt_eff rfl ?_
    first | (refine list_store H S (i := 0) rfl rfl rfl rfl sz_25 rfl rfl ?_; trace "ALT law_WaysCuts 3.7.6 0") | (refine list_store H S (i := 1) rfl rfl rfl rfl sz_25 rfl rfl ?_; trace "ALT law_WaysCuts 3.7.6 1") | (refine list_store H S (i := 2) rfl rfl rfl rfl sz_25 rfl rfl ?_; trace "ALT law_WaysCuts 3.7.6 2") | (refine list_store H S (i := 3) rfl rfl rfl rfl sz_25 rfl rfl ?_; trace "ALT law_WaysCuts 3.7.6 3") | (refine list_store H S (i := 4) rfl rfl rfl rfl sz_25 rfl rfl ?_; trace "ALT law_WaysCuts 3.7.6 4") | (refine list_store H S (i := 5) rfl rfl rfl rfl sz_25 rfl rfl ?_; trace "ALT law_WaysCuts 3.7.6 5") | (refine list_store_own H S (i := 0) rfl rfl rfl (by omega) (by omega) sz_25 rfl ?_; trace "ALT law_WaysCuts 3.7.6 6") | (refine list_store_own H S (i := 1) rfl rfl rfl (by omega) (by omega) sz_25 rfl ?_; trace "ALT law_WaysCuts 3.7.6 7") | (refine list_store_own H S (i := 2) rfl rfl rfl (by omega) (by omega) sz_25 rfl ?_; trace "ALT law_WaysCuts 3.7.6 8") | (refine list_store_own H S (i := 3) rfl rfl rfl (by omega) (by omega) sz_25 rfl ?_; trace "ALT law_WaysCuts 3.7.6 9") | (refine list_store_own H S (i := 4) rfl rfl rfl (by omega) (by omega) sz_25 rfl ?_; trace "ALT law_WaysCuts 3.7.6 10") | (refine list_store_own H S (i := 5) rfl rfl rfl (by omega) (by omega) sz_25 rfl ?_; trace "ALT law_WaysCuts 3.7.6 11")
    clear H a S;intro _ a S H
    refine wpList_nil (And.intro (Or.inr (S.sel [4, 5] rfl rfl)) ?_)
    refine wt_does H rfl rfl (fun _ S => does_assign rfl) ?_;clear H a;intro a H
    refine wt_nil ?_
    exact k5 (_, _, _, _, _, _, _) a _ (trivial) (S.sel [2, 0, 1, 3, 4, 5] rfl rfl) (H.keep [7, 8, 2, 3, 4] rfl)
  ·skip
   refine list_alloc H rfl S ze_25 ?_;clear H a S;intro b7 _ a hb7 hbw7 S H
   refine wpList_nil (And.intro (Or.inr (S.sel [1, 2] rfl rfl)) ?_)
   refine wt_b2 rfl rfl ?_ ?_
   ·skip
    refine list_call H rfl rfl Try.func17 rfl rfl (ref_Copy pl ps PA pc xs XA xc _ (hps.now S) hpn (hxs.now S) hxn hpn8 hxn8) ?_;clear H a
    rintro _ _ a ⟨A5, c5, B5, d5, rfl, S2⟩ H
    replace S := S.call S2;clear S2
    refine wpList_nil (And.intro (Or.inr (S.sel [3, 4] rfl rfl)) ?_)
    refine wt_eff rfl ?_
    refine list_build0 H rfl S sl_23 sz_3 (icl pe) ?_;clear H a S;intro A10 _ a S H
    refine wpList_nil (And.intro (Or.inr (S.sel [4, 5] rfl rfl)) ?_)
    refine wt_eff rfl ?_
    refine list_append H rfl S sl_23 sz_3 ze_3 by_3 rfl rfl (i := 0) rfl rfl rfl ((hpe.now S)) (fun _ _ _ _ => rfl) (by omega) (by omega) ?_;clear H a S;intro A11 c11 _ a S H
    rw [Nat.zero_add] at H
    replace S := S.recell (i := 0) (n := pe.length) (cell' := icl pe) (by simp only [Nat.zero_add]; rfl) (fun k j hk hj => by unfold capp; rw [if_neg (by omega)]; rfl)
    refine wpList_nil (And.intro (Or.inr (S.sel [4, 5] rfl rfl)) ?_)
    refine wt_eff rfl ?_
    first | (refine list_store H S (i := 0) rfl rfl rfl rfl sz_25 rfl rfl ?_; trace "ALT law_WaysCuts 3.7.7 0") | (refine list_store H S (i := 1) rfl rfl rfl rfl sz_25 rfl rfl ?_; trace "ALT law_WaysCuts 3.7.7 1") | (refine list_store H S (i := 2) rfl rfl rfl rfl sz_25 rfl rfl ?_; trace "ALT law_WaysCuts 3.7.7 2") | (refine list_store H S (i := 3) rfl rfl rfl rfl sz_25 rfl rfl ?_; trace "ALT law_WaysCuts 3.7.7 3") | (refine list_store H S (i := 4) rfl rfl rfl rfl sz_25 rfl rfl ?_; trace "ALT law_WaysCuts 3.7.7 4") | (refine list_store H S (i := 5) rfl rfl rfl rfl sz_25 rfl rfl ?_; trace "ALT law_WaysCuts 3.7.7 5") | (refine list_store_own H S (i := 0) rfl rfl rfl (by omega) (by omega) sz_25 rfl ?_; trace "ALT law_WaysCuts 3.7.7 6") | (refine list_store_own H S (i := 1) rfl rfl rfl (by omega) (by omega) sz_25 rfl ?_; trace "ALT law_WaysCuts 3.7.7 7") | (refine list_store_own H S (i := 2) rfl rfl rfl (by omega) (by omega) sz_25 rfl ?_; trace "ALT law_WaysCuts 3.7.7 8") | (refine list_store_own H S (i := 3) rfl rfl rfl (by omega) (by omega) sz_25 rfl ?_; trace "ALT law_WaysCuts 3.7.7 9") | (refine list_store_own H S (i := 4) rfl rfl rfl (by omega) (by omega) sz_25 rfl ?_; trace "ALT law_WaysCuts 3.7.7 10") | (refine list_store_own H S (i := 5) rfl rfl rfl (by omega) (by omega) sz_25 rfl ?_; trace "ALT law_WaysCuts 3.7.7 11")
    clear H a S;intro _ a S H
    refine wpList_nil (And.intro (Or.inr (S.sel [4, 5] rfl rfl)) ?_)
    refine wt_does H rfl rfl (fun _ S => does_assign rfl) ?_;clear H a;intro a H
    refine wt_nil ?_
    exact k5 (_, _, _, _, _, _, _) a _ (trivial) (S.sel [3, 1, 2, 0, 4, 5] rfl rfl) (H.keep [7, 8, 2, 3, 4] rfl)
   ·skip
    refine list_build0 H rfl S sl_23 sz_3 (icl pe) ?_;clear H a S;intro A12 _ a S H
    refine wpList_nil (And.intro (Or.inr (S.sel [2, 3] rfl rfl)) ?_)
    refine wt_eff rfl ?_
    refine list_call H rfl rfl Try.func17 rfl rfl (ref_Copy pl ps PA pc xs XA xc _ (hps.now S) hpn (hxs.now S) hxn hpn8 hxn8) ?_;clear H a
    rintro _ _ a ⟨A5, c5, B5, d5, rfl, S2⟩ H
    replace S := S.call S2;clear S2
    refine wpList_nil (And.intro (Or.inr (S.sel [4, 5] rfl rfl)) ?_)
    refine wt_eff rfl ?_
    refine list_append H rfl S sl_23 sz_3 ze_3 by_3 rfl rfl (i := 2) rfl rfl rfl ((hpe.now S)) (fun _ _ _ _ => rfl) (by omega) (by omega) ?_;clear H a S;intro A13 c13 _ a S H
    rw [Nat.zero_add] at H
    replace S := S.recell (i := 2) (n := pe.length) (cell' := icl pe) (by simp only [Nat.zero_add]; rfl) (fun k j hk hj => by unfold capp; rw [if_neg (by omega)]; rfl)
    refine wpList_nil (And.intro (Or.inr (S.sel [4, 5] rfl rfl)) ?_)
    refine wt_eff rfl ?_
    first | (refine list_store H S (i := 0) rfl rfl rfl rfl sz_25 rfl rfl ?_; trace "ALT law_WaysCuts 3.7.8 0") | (refine list_store H S (i := 1) rfl rfl rfl rfl sz_25 rfl rfl ?_; trace "ALT law_WaysCuts 3.7.8 1") | (refine list_store H S (i := 2) rfl rfl rfl rfl sz_25 rfl rfl ?_; trace "ALT law_WaysCuts 3.7.8 2") | (refine list_store H S (i := 3) rfl rfl rfl rfl sz_25 rfl rfl ?_; trace "ALT law_WaysCuts 3.7.8 3") | (refine list_store H S (i := 4) rfl rfl rfl rfl sz_25 rfl rfl ?_; trace "ALT law_WaysCuts 3.7.8 4") | (refine list_store H S (i := 5) rfl rfl rfl rfl sz_25 rfl rfl ?_; trace "ALT law_WaysCuts 3.7.8 5") | (refine list_store_own H S (i := 0) rfl rfl rfl (by omega) (by omega) sz_25 rfl ?_; trace "ALT law_WaysCuts 3.7.8 6") | (refine list_store_own H S (i := 1) rfl rfl rfl (by omega) (by omega) sz_25 rfl ?_; trace "ALT law_WaysCuts 3.7.8 7") | (refine list_store_own H S (i := 2) rfl rfl rfl (by omega) (by omega) sz_25 rfl ?_; trace "ALT law_WaysCuts 3.7.8 8") | (refine list_store_own H S (i := 3) rfl rfl rfl (by omega) (by omega) sz_25 rfl ?_; trace "ALT law_WaysCuts 3.7.8 9") | (refine list_store_own H S (i := 4) rfl rfl rfl (by omega) (by omega) sz_25 rfl ?_; trace "ALT law_WaysCuts 3.7.8 10") | (refine list_store_own H S (i := 5) rfl rfl rfl (by omega) (by omega) sz_25 rfl ?_; trace "ALT law_WaysCuts 3.7.8 11")
    clear H a S;intro _ a S H
    refine wpList_nil (And.intro (Or.inr (S.sel [4, 5] rfl rfl)) ?_)
    refine wt_does H rfl rfl (fun _ S => does_assign rfl) ?_;clear H a;intro a H
    refine wt_nil ?_
    exact k5 (_, _, _, _, _, _, _) a _ (trivial) (S.sel [3, 0, 1, 2, 4, 5] rfl rfl) (H.keep [7, 8, 2, 3, 4] rfl)
 clear SR H S a
 intro xm a wm hp S H
 obtain ⟨A5, c5, B5, d5, b5, A6, c6⟩ := xm
 replace H := H.keep [2, 3, 4, 7, 8] rfl
 refine seq_list fun K7 k7 => ?_
 refine list_does H rfl ((by first | (exact does_loadBox agg_25 sz_25 rfl S (i := 0) rfl rfl; trace "ALT law_WaysCuts 4.0.1 0") | (exact does_loadBox agg_25 sz_25 rfl S (i := 1) rfl rfl; trace "ALT law_WaysCuts 4.0.1 1") | (exact does_loadBox agg_25 sz_25 rfl S (i := 2) rfl rfl; trace "ALT law_WaysCuts 4.0.1 2") | (exact does_loadBox agg_25 sz_25 rfl S (i := 3) rfl rfl; trace "ALT law_WaysCuts 4.0.1 3") | (exact does_loadBox agg_25 sz_25 rfl S (i := 4) rfl rfl; trace "ALT law_WaysCuts 4.0.1 4") | (exact does_loadBox agg_25 sz_25 rfl S (i := 5) rfl rfl; trace "ALT law_WaysCuts 4.0.1 5"))) ?_;clear H a;intro a H
 refine list_does H rfl ((by first | (exact does_field_pt fo_48_0 rfl; trace "ALT law_WaysCuts 4.1.1 0") | (exact does_field fo_48_0 rfl; trace "ALT law_WaysCuts 4.1.1 1"))) ?_;clear H a;intro a H
 refine list_does H rfl (does_load one_3 rfl (by first | (exact boxM.rd S (i := 0) rfl rfl; trace "ALT law_WaysCuts 4.2.1 0") | (exact boxM.rd S (i := 1) rfl rfl; trace "ALT law_WaysCuts 4.2.1 1") | (exact boxM.rd S (i := 2) rfl rfl; trace "ALT law_WaysCuts 4.2.1 2") | (exact boxM.rd S (i := 3) rfl rfl; trace "ALT law_WaysCuts 4.2.1 3") | (exact boxM.rd S (i := 4) rfl rfl; trace "ALT law_WaysCuts 4.2.1 4") | (exact boxM.rd S (i := 5) rfl rfl; trace "ALT law_WaysCuts 4.2.1 5"))) ?_;clear H a;intro a H
 refine ls 1 H <| sr 1 rfl <| sE ?_;clear H a;intro a H
 refine list_does H rfl ((by first | (exact does_field_pt fo_48_2 rfl; trace "ALT law_WaysCuts 4.4.1 0") | (exact does_field fo_48_2 rfl; trace "ALT law_WaysCuts 4.4.1 1"))) ?_;clear H a;intro a H
 refine list_does H rfl (does_load one_3 rfl (by first | (exact boxM.rd S (i := 0) rfl rfl; trace "ALT law_WaysCuts 4.5.1 0") | (exact boxM.rd S (i := 1) rfl rfl; trace "ALT law_WaysCuts 4.5.1 1") | (exact boxM.rd S (i := 2) rfl rfl; trace "ALT law_WaysCuts 4.5.1 2") | (exact boxM.rd S (i := 3) rfl rfl; trace "ALT law_WaysCuts 4.5.1 3") | (exact boxM.rd S (i := 4) rfl rfl; trace "ALT law_WaysCuts 4.5.1 4") | (exact boxM.rd S (i := 5) rfl rfl; trace "ALT law_WaysCuts 4.5.1 5"))) ?_;clear H a;intro a H
 refine list_call H rfl rfl Try.func32 rfl rfl (ret_imp (ways_Cut pl ps A5 c5 xs B5 d5 out pe A6 c6 T0 _ (ownM.inS S (i := 1) rfl) hpn (ownM.inS S (i := 2) rfl) hxn (ownM.inS S (i := 3) rfl) hpen) (fun u w' h => cut_form h)) ?_;clear H a
 rintro _ _ a ⟨A7, c7, rfl, S2⟩ H
 replace S := S.call S2;clear S2
 refine ls 5 H <| sr 5 rfl <| sE ?_;clear H a;intro a H
 refine k7 _ _ ?_;clear k7 K7
 replace H := H.keep [2, 3, 4, 7, 8, 9, 10] rfl
 refine seq_list fun K8 k8 => ?_
 refine list_does H rfl ((by first | (exact does_loadBox agg_25 sz_25 rfl S (i := 0) rfl rfl; trace "ALT law_WaysCuts 5.0.1 0") | (exact does_loadBox agg_25 sz_25 rfl S (i := 1) rfl rfl; trace "ALT law_WaysCuts 5.0.1 1") | (exact does_loadBox agg_25 sz_25 rfl S (i := 2) rfl rfl; trace "ALT law_WaysCuts 5.0.1 2") | (exact does_loadBox agg_25 sz_25 rfl S (i := 3) rfl rfl; trace "ALT law_WaysCuts 5.0.1 3") | (exact does_loadBox agg_25 sz_25 rfl S (i := 4) rfl rfl; trace "ALT law_WaysCuts 5.0.1 4") | (exact does_loadBox agg_25 sz_25 rfl S (i := 5) rfl rfl; trace "ALT law_WaysCuts 5.0.1 5") | (exact does_loadBox agg_25 sz_25 rfl S (i := 6) rfl rfl; trace "ALT law_WaysCuts 5.0.1 6"))) ?_;clear H a;intro a H
 refine list_does H rfl ((by first | (exact does_field_pt fo_48_0 rfl; trace "ALT law_WaysCuts 5.1.1 0") | (exact does_field fo_48_0 rfl; trace "ALT law_WaysCuts 5.1.1 1"))) ?_;clear H a;intro a H
 refine list_does H rfl (does_load one_3 rfl (by first | (exact boxM.rd S (i := 0) rfl rfl; trace "ALT law_WaysCuts 5.2.1 0") | (exact boxM.rd S (i := 1) rfl rfl; trace "ALT law_WaysCuts 5.2.1 1") | (exact boxM.rd S (i := 2) rfl rfl; trace "ALT law_WaysCuts 5.2.1 2") | (exact boxM.rd S (i := 3) rfl rfl; trace "ALT law_WaysCuts 5.2.1 3") | (exact boxM.rd S (i := 4) rfl rfl; trace "ALT law_WaysCuts 5.2.1 4") | (exact boxM.rd S (i := 5) rfl rfl; trace "ALT law_WaysCuts 5.2.1 5") | (exact boxM.rd S (i := 6) rfl rfl; trace "ALT law_WaysCuts 5.2.1 6"))) ?_;clear H a;intro a H
 refine list_does H rfl ((by first | (exact does_field_pt fo_48_1 rfl; trace "ALT law_WaysCuts 5.3.1 0") | (exact does_field fo_48_1 rfl; trace "ALT law_WaysCuts 5.3.1 1"))) ?_;clear H a;intro a H
 refine list_does H rfl (does_load one_23 rfl (by first | (exact boxM.rd S (i := 0) rfl rfl; trace "ALT law_WaysCuts 5.4.1 0") | (exact boxM.rd S (i := 1) rfl rfl; trace "ALT law_WaysCuts 5.4.1 1") | (exact boxM.rd S (i := 2) rfl rfl; trace "ALT law_WaysCuts 5.4.1 2") | (exact boxM.rd S (i := 3) rfl rfl; trace "ALT law_WaysCuts 5.4.1 3") | (exact boxM.rd S (i := 4) rfl rfl; trace "ALT law_WaysCuts 5.4.1 4") | (exact boxM.rd S (i := 5) rfl rfl; trace "ALT law_WaysCuts 5.4.1 5") | (exact boxM.rd S (i := 6) rfl rfl; trace "ALT law_WaysCuts 5.4.1 6"))) ?_;clear H a;intro a H
 refine list_does H rfl ((by first | (exact does_field_pt fo_48_2 rfl; trace "ALT law_WaysCuts 5.5.1 0") | (exact does_field fo_48_2 rfl; trace "ALT law_WaysCuts 5.5.1 1"))) ?_;clear H a;intro a H
 refine list_does H rfl (does_load one_3 rfl (by first | (exact boxM.rd S (i := 0) rfl rfl; trace "ALT law_WaysCuts 5.6.1 0") | (exact boxM.rd S (i := 1) rfl rfl; trace "ALT law_WaysCuts 5.6.1 1") | (exact boxM.rd S (i := 2) rfl rfl; trace "ALT law_WaysCuts 5.6.1 2") | (exact boxM.rd S (i := 3) rfl rfl; trace "ALT law_WaysCuts 5.6.1 3") | (exact boxM.rd S (i := 4) rfl rfl; trace "ALT law_WaysCuts 5.6.1 4") | (exact boxM.rd S (i := 5) rfl rfl; trace "ALT law_WaysCuts 5.6.1 5") | (exact boxM.rd S (i := 6) rfl rfl; trace "ALT law_WaysCuts 5.6.1 6"))) ?_;clear H a;intro a H
 refine list_call H rfl rfl Try.func35 rfl rfl (ret_imp (ref_Cut pl ps PA pc xs XA xc out pe BA bc T0 _ (hps.now S) hpn (hxs.now S) hxn (hpe.now S) hpen) (fun u w' h => cut_form h)) ?_;clear H a
 rintro _ _ a ⟨A8, c8, rfl, S2⟩ H
 replace S := S.call S2;clear S2
 refine ls 5 H <| sr 5 rfl <| sE ?_;clear H a;intro a H
 refine k8 _ _ ?_;clear k8 K8
 refine wp_seq_k fun K9 k9 => ?_
 replace H := H.keep [2, 3, 4, 7, 8, 9, 10, 11, 12] rfl
 refine seq_list fun K10 k10 => ?_
 refine ls 2 H <| sr 2 rfl <| sE ?_;clear H a;intro a H
 refine list_call H rfl rfl Try.func23 rfl rfl (law_same (cutE pl ps xs out pe T0).1 (cutE pl ps xs out pe T0).1 A7 A8 c7 c8 _ (ownM.inS S (i := 1) rfl) (ownM.inS S (i := 0) rfl) (ownM.len63 S (i := 1) rfl) (ownM.len63 S (i := 0) rfl)) ?_;clear H a
 rintro _ _ a ⟨rfl, S2⟩ H
 replace S := S.call S2;clear S2
 rw [show sameI (cutE pl ps xs out pe T0).1 (cutE pl ps xs out pe T0).1 = true from decide_eq_true rfl] at H
 refine ls 5 H <| sr 2 rfl <| sy rfl <| sr 1 rfl <| sy rfl <| sr 1 rfl <| sy rfl <| sd (does_ne_f rfl rfl rfl) <| sE ?_;clear H a;intro a H
 refine list_does H rfl ((by first | (exact does_or rfl rfl rfl; trace "ALT law_WaysCuts 6.8.1 0") | (exact does_pick rfl rfl rfl; trace "ALT law_WaysCuts 6.8.1 1"))) ?_;clear H a;intro a H
 refine k10 _ _ ?_;clear k10 K10
 refine cond_ H rfl (fun hc2 => ?_) (fun hc2 => ?_)
 ·skip
  skip
  cases hc2
 skip
 refine wp_skip ?_
 refine k9 _ _ ?_
 replace H := H.keep [2, 3, 4, 7, 8] rfl
 replace S := S.drew
 refine seq_wq [(0, true), (1, true), (2, true), (3, true), (4, true), (5, true), (7, true), (6, false), (8, false), (9, false), (10, true), (11, true), (12, true), (13, true), (14, true)] (by kernel_rfl) (by kernel_rfl) (S.sel [0, 1, 2, 3, 4, 5, 6, 7] rfl rfl) fun K11 k11 => ?_
 refine wq_does H rfl rfl (fun _ S => (by first | (exact does_loadBox agg_25 sz_25 rfl S (i := 0) rfl rfl; trace "ALT law_WaysCuts 8.0.1 0") | (exact does_loadBox agg_25 sz_25 rfl S (i := 1) rfl rfl; trace "ALT law_WaysCuts 8.0.1 1") | (exact does_loadBox agg_25 sz_25 rfl S (i := 2) rfl rfl; trace "ALT law_WaysCuts 8.0.1 2") | (exact does_loadBox agg_25 sz_25 rfl S (i := 3) rfl rfl; trace "ALT law_WaysCuts 8.0.1 3") | (exact does_loadBox agg_25 sz_25 rfl S (i := 4) rfl rfl; trace "ALT law_WaysCuts 8.0.1 4") | (exact does_loadBox agg_25 sz_25 rfl S (i := 5) rfl rfl; trace "ALT law_WaysCuts 8.0.1 5") | (exact does_loadBox agg_25 sz_25 rfl S (i := 6) rfl rfl; trace "ALT law_WaysCuts 8.0.1 6") | (exact does_loadBox agg_25 sz_25 rfl S (i := 7) rfl rfl; trace "ALT law_WaysCuts 8.0.1 7"))) ?_;clear H a;intro a H
 refine wq_does H rfl rfl (fun _ S => (by first | (exact does_field_pt fo_48_0 rfl; trace "ALT law_WaysCuts 8.1.1 0") | (exact does_field fo_48_0 rfl; trace "ALT law_WaysCuts 8.1.1 1"))) ?_;clear H a;intro a H
 refine wq_does H rfl rfl (fun _ S => does_load one_3 rfl (by first | (exact boxM.rd S (i := 0) rfl rfl; trace "ALT law_WaysCuts 8.2.1 0") | (exact boxM.rd S (i := 1) rfl rfl; trace "ALT law_WaysCuts 8.2.1 1") | (exact boxM.rd S (i := 2) rfl rfl; trace "ALT law_WaysCuts 8.2.1 2") | (exact boxM.rd S (i := 3) rfl rfl; trace "ALT law_WaysCuts 8.2.1 3") | (exact boxM.rd S (i := 4) rfl rfl; trace "ALT law_WaysCuts 8.2.1 4") | (exact boxM.rd S (i := 5) rfl rfl; trace "ALT law_WaysCuts 8.2.1 5") | (exact boxM.rd S (i := 6) rfl rfl; trace "ALT law_WaysCuts 8.2.1 6") | (exact boxM.rd S (i := 7) rfl rfl; trace "ALT law_WaysCuts 8.2.1 7"))) ?_;clear H a;intro a H
 refine qF H <| qr 1 rfl <| qK ?_;clear H a;intro a H
 refine wq_does H rfl rfl (fun _ S => (by first | (exact does_field_pt fo_48_2 rfl; trace "ALT law_WaysCuts 8.4.1 0") | (exact does_field fo_48_2 rfl; trace "ALT law_WaysCuts 8.4.1 1"))) ?_;clear H a;intro a H
 refine wq_does H rfl rfl (fun _ S => does_load one_3 rfl (by first | (exact boxM.rd S (i := 0) rfl rfl; trace "ALT law_WaysCuts 8.5.1 0") | (exact boxM.rd S (i := 1) rfl rfl; trace "ALT law_WaysCuts 8.5.1 1") | (exact boxM.rd S (i := 2) rfl rfl; trace "ALT law_WaysCuts 8.5.1 2") | (exact boxM.rd S (i := 3) rfl rfl; trace "ALT law_WaysCuts 8.5.1 3") | (exact boxM.rd S (i := 4) rfl rfl; trace "ALT law_WaysCuts 8.5.1 4") | (exact boxM.rd S (i := 5) rfl rfl; trace "ALT law_WaysCuts 8.5.1 5") | (exact boxM.rd S (i := 6) rfl rfl; trace "ALT law_WaysCuts 8.5.1 6") | (exact boxM.rd S (i := 7) rfl rfl; trace "ALT law_WaysCuts 8.5.1 7"))) ?_;clear H a;intro a H
 refine qF H <| qr 1 rfl <| qK ?_;clear H a;intro a H
 refine wq_eff rfl ?_
 refine list_build0 H rfl S sl_23 sz_3 (icl bl) ?_;clear H a S;intro A14 _ a S H
 refine wpList_nil (And.intro (S.sel [1, 2, 3, 4, 5, 6, 7, 8] rfl rfl) ?_)
 refine wq_eff rfl ?_
 refine list_append H rfl S sl_23 sz_3 ze_3 by_3 rfl rfl (i := 0) rfl rfl rfl ((hbar.now S)) (fun _ _ _ _ => rfl) (by omega) (by omega) ?_;clear H a S;intro A15 c15 _ a S H
 rw [Nat.zero_add] at H
 replace S := S.recell (i := 0) (n := bl.length) (cell' := icl bl) (by simp only [Nat.zero_add]; rfl) (fun k j hk hj => by unfold capp; rw [if_neg (by omega)]; rfl)
 refine wpList_nil (And.intro (S.sel [1, 2, 3, 4, 5, 6, 7, 8] rfl rfl) ?_)
 refine wq_eff rfl ?_
 refine list_call H rfl rfl Try.func36 rfl rfl (ways_Bound pl ps A5 c5 xs B5 d5 out pe A6 c6 T0 bl _ _ _ (ownM.inS S (i := 4) rfl) hpn (ownM.inS S (i := 5) rfl) hxn (ownM.inS S (i := 6) rfl) hpen (ownM.inS S (i := 0) rfl) hbn) ?_;clear H a
 rintro _ _ a ⟨rfl, S2⟩ H
 replace S := S.call S2;clear S2
 refine wpList_nil (And.intro (S.sel [1, 2, 3, 4, 5, 6, 7, 8] rfl rfl) ?_)
 refine qF H <| qr 5 rfl <| qK ?_;clear H a;intro a H
 refine wq_nil ?_
 refine k11 _ _ ?_
 clear k11 K11
 replace H := H.keep [2, 3, 4, 10, 13] rfl
 refine seq_list fun K12 k12 => ?_
 refine list_does H rfl ((by first | (exact does_loadBox agg_25 sz_25 rfl S (i := 0) rfl rfl; trace "ALT law_WaysCuts 9.0.1 0") | (exact does_loadBox agg_25 sz_25 rfl S (i := 1) rfl rfl; trace "ALT law_WaysCuts 9.0.1 1") | (exact does_loadBox agg_25 sz_25 rfl S (i := 2) rfl rfl; trace "ALT law_WaysCuts 9.0.1 2") | (exact does_loadBox agg_25 sz_25 rfl S (i := 3) rfl rfl; trace "ALT law_WaysCuts 9.0.1 3") | (exact does_loadBox agg_25 sz_25 rfl S (i := 4) rfl rfl; trace "ALT law_WaysCuts 9.0.1 4") | (exact does_loadBox agg_25 sz_25 rfl S (i := 5) rfl rfl; trace "ALT law_WaysCuts 9.0.1 5") | (exact does_loadBox agg_25 sz_25 rfl S (i := 6) rfl rfl; trace "ALT law_WaysCuts 9.0.1 6") | (exact does_loadBox agg_25 sz_25 rfl S (i := 7) rfl rfl; trace "ALT law_WaysCuts 9.0.1 7") | (exact does_loadBox agg_25 sz_25 rfl S (i := 8) rfl rfl; trace "ALT law_WaysCuts 9.0.1 8"))) ?_;clear H a;intro a H
 refine list_does H rfl ((by first | (exact does_field_pt fo_48_0 rfl; trace "ALT law_WaysCuts 9.1.1 0") | (exact does_field fo_48_0 rfl; trace "ALT law_WaysCuts 9.1.1 1"))) ?_;clear H a;intro a H
 refine list_does H rfl (does_load one_3 rfl (by first | (exact boxM.rd S (i := 0) rfl rfl; trace "ALT law_WaysCuts 9.2.1 0") | (exact boxM.rd S (i := 1) rfl rfl; trace "ALT law_WaysCuts 9.2.1 1") | (exact boxM.rd S (i := 2) rfl rfl; trace "ALT law_WaysCuts 9.2.1 2") | (exact boxM.rd S (i := 3) rfl rfl; trace "ALT law_WaysCuts 9.2.1 3") | (exact boxM.rd S (i := 4) rfl rfl; trace "ALT law_WaysCuts 9.2.1 4") | (exact boxM.rd S (i := 5) rfl rfl; trace "ALT law_WaysCuts 9.2.1 5") | (exact boxM.rd S (i := 6) rfl rfl; trace "ALT law_WaysCuts 9.2.1 6") | (exact boxM.rd S (i := 7) rfl rfl; trace "ALT law_WaysCuts 9.2.1 7") | (exact boxM.rd S (i := 8) rfl rfl; trace "ALT law_WaysCuts 9.2.1 8"))) ?_;clear H a;intro a H
 refine list_does H rfl ((by first | (exact does_field_pt fo_48_1 rfl; trace "ALT law_WaysCuts 9.3.1 0") | (exact does_field fo_48_1 rfl; trace "ALT law_WaysCuts 9.3.1 1"))) ?_;clear H a;intro a H
 refine list_does H rfl (does_load one_23 rfl (by first | (exact boxM.rd S (i := 0) rfl rfl; trace "ALT law_WaysCuts 9.4.1 0") | (exact boxM.rd S (i := 1) rfl rfl; trace "ALT law_WaysCuts 9.4.1 1") | (exact boxM.rd S (i := 2) rfl rfl; trace "ALT law_WaysCuts 9.4.1 2") | (exact boxM.rd S (i := 3) rfl rfl; trace "ALT law_WaysCuts 9.4.1 3") | (exact boxM.rd S (i := 4) rfl rfl; trace "ALT law_WaysCuts 9.4.1 4") | (exact boxM.rd S (i := 5) rfl rfl; trace "ALT law_WaysCuts 9.4.1 5") | (exact boxM.rd S (i := 6) rfl rfl; trace "ALT law_WaysCuts 9.4.1 6") | (exact boxM.rd S (i := 7) rfl rfl; trace "ALT law_WaysCuts 9.4.1 7") | (exact boxM.rd S (i := 8) rfl rfl; trace "ALT law_WaysCuts 9.4.1 8"))) ?_;clear H a;intro a H
 refine list_does H rfl ((by first | (exact does_field_pt fo_48_2 rfl; trace "ALT law_WaysCuts 9.5.1 0") | (exact does_field fo_48_2 rfl; trace "ALT law_WaysCuts 9.5.1 1"))) ?_;clear H a;intro a H
 refine list_does H rfl (does_load one_3 rfl (by first | (exact boxM.rd S (i := 0) rfl rfl; trace "ALT law_WaysCuts 9.6.1 0") | (exact boxM.rd S (i := 1) rfl rfl; trace "ALT law_WaysCuts 9.6.1 1") | (exact boxM.rd S (i := 2) rfl rfl; trace "ALT law_WaysCuts 9.6.1 2") | (exact boxM.rd S (i := 3) rfl rfl; trace "ALT law_WaysCuts 9.6.1 3") | (exact boxM.rd S (i := 4) rfl rfl; trace "ALT law_WaysCuts 9.6.1 4") | (exact boxM.rd S (i := 5) rfl rfl; trace "ALT law_WaysCuts 9.6.1 5") | (exact boxM.rd S (i := 6) rfl rfl; trace "ALT law_WaysCuts 9.6.1 6") | (exact boxM.rd S (i := 7) rfl rfl; trace "ALT law_WaysCuts 9.6.1 7") | (exact boxM.rd S (i := 8) rfl rfl; trace "ALT law_WaysCuts 9.6.1 8"))) ?_;clear H a;intro a H
 refine ls 1 H <| sr 1 rfl <| sE ?_;clear H a;intro a H
 refine list_call H rfl rfl Try.func34 rfl rfl (ref_Bound pl ps PA pc xs XA xc out pe BA bc T0 bl DA dc _ (hps.now S) hpn (hxs.now S) hxn (hpe.now S) hpen (hbar.now S) hbn) ?_;clear H a
 rintro _ _ a ⟨rfl, S2⟩ H
 replace S := S.call S2;clear S2
 refine ls 5 H <| sr 5 rfl <| sE ?_;clear H a;intro a H
 refine k12 _ _ ?_;clear k12 K12
 replace H := H.keep [10, 12, 13, 14] rfl
 refine seq_list fun K13 k13 => ?_
 refine ls 7 H <| sr 2 rfl <| sd (does_eq_t rfl rfl rfl) <| sr 1 rfl <| sy rfl <| sr 1 rfl <| sy rfl <| sr 1 rfl <| sy rfl <| sd (does_eq_t rfl rfl rfl) <| sE ?_;clear H a;intro a H
 refine list_does H rfl ((by first | (exact does_and rfl rfl rfl; trace "ALT law_WaysCuts 10.7.1 0") | (exact does_pick rfl rfl rfl; trace "ALT law_WaysCuts 10.7.1 1"))) ?_;clear H a;intro a H
 refine ls 1 H <| sr 1 rfl <| sE ?_;clear H a;intro a H
 refine list_yes H rfl rfl ?_
 refine list_call H rfl rfl Try.func15 rfl rfl (law_works _) ?_;clear H a
 rintro _ _ a ⟨rfl, S2⟩ H
 replace S := S.call S2;clear S2
 refine list_does H rfl ((by first | (exact does_and rfl rfl rfl; trace "ALT law_WaysCuts 10.10.1 0") | (exact does_pick rfl rfl rfl; trace "ALT law_WaysCuts 10.10.1 1"))) ?_;clear H a;intro a H
 refine ls 1 H <| sr 1 rfl <| sE ?_;clear H a;intro a H
 refine k13 _ _ ?_;clear k13 K13
 refine wp_ret ?_
 refine ret1 (fn := Try.f7) rfl H rfl ?_
 exact ⟨rfl, (S.sel [] rfl rfl)⟩

end Go.Proofs.Ytlmddkekeoebcaa
