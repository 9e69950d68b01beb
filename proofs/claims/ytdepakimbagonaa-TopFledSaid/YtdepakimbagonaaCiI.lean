/- CiI. Printed by gen.py. -/
import Derived.Test.YtdepakimbagonaaCiH
import Derived.Test.YtdepakimbagonaaDrE
import Derived.Test.YtdepakimbagonaaTpA
namespace Go.Proofs.Ytdepakimbagonaa
open Go.RowKit
set_option linter.unusedVariables false
set_option linter.unusedSimpArgs false
set_option maxRecDepth 100000
set_option maxHeartbeats 4000000


def exBr : List Brake := [⟨12000, 1⟩, ⟨16000, 3⟩]
theorem ex_dist : distI ⟨true, 1000, 20, 2000, 20000, exBr⟩ ⟨60, 0, 500, 0⟩ = (108, 135, 0) := by kernel_rfl


theorem dlaw_Example (w : World) :
    Calls Try.prog 25 [].toArray w (Ret (fun v w' => ∃ A, v = .agg [.bool true, .int .i64 1000, .int .i64 20, .int .i64 2000, .int .i64 20000, .slice A 2 2].toArray ∧ St w noF [ownM 123 2 A 2 2 (bcell exBr)] w')) := by
 refine enter Try.func25 rfl Try.ntmps25 rfl (fun a H => ?_)
 have S := St.start w
 refine seq_list fun K1 k1 => ?_
 refine list_alloc H rfl S ze_81 ?_;clear H a S;intro b0 _ a hb0 hbw0 S H
 refine k1 _ _ ?_;clear k1 K1
 refine seq_list fun K2 k2 => ?_
 refine ls 2 H <| sd (does_build bt_123 rfl rfl) <| sd (does_build bt_123 rfl rfl) <| sE ?_;clear H a;intro a H
 refine list_build' H rfl S sl_79 sz_123 ze_123 rfl rfl rfl rfl rfl rfl rfl rfl rfl ?_;clear H a S;intro A1 _ a hA1 S H
 refine ls 1 H <| sd (does_build bt_81 rfl rfl) <| sE ?_;clear H a;intro a H
 refine list_store H S (i := 1) rfl rfl rfl rfl sz_81 rfl rfl ?_
 clear H a S;intro _ a S H
 refine k2 _ _ ?_;clear k2 K2
 refine wp_ret ?_
 refine retA (fn := Try.f25) rfl H rfl agg_81 (by exact sz_81) (boxAgg S (i := 1) rfl) ?_
 replace S := S.recell (i := 0) rfl (cell' := bcell exBr) (cells2 (two rfl rfl) (two rfl rfl))
 exact ⟨_, rfl, (S.sel [0] rfl rfl)⟩

theorem top_measures (w : World) :
    Calls Try.prog 8 [].toArray w (Ret (fun v w' => v = .bool true ∧ St w noF [] w')) := by
 refine enter Try.func8 rfl Try.ntmps8 rfl (fun a H => ?_)
 have S := St.start w
 refine sS H fun K1 k1=>sr 1 rfl <| sE ?_;clear H a;intro a H
 refine k1 _ ?_;clear k1 K1
 refine seq_list fun K2 k2 => ?_
 refine ls 2 H <| sd (does_build bt_36 rfl rfl) <| sd (does_build bt_76 rfl rfl) <| sE ?_;clear H a;intro a H
 refine list_alloc H rfl S ze_76 ?_;clear H a S;intro b1 _ a hb1 hbw1 S H
 refine list_store H S (i := 0) rfl rfl rfl rfl sz_76 rfl rfl ?_
 clear H a S;intro _ a S H
 refine k2 _ _ ?_;clear k2 K2
 replace H := H.keep [1] rfl
 replace S := S.drew
 refine seq_wt 999999 (.q 1 (.b3 0 (.b3 2 (.q 3 (.q 4 (.q 5 (.q 6 (.b2 7 (.e 8 (.e 9 (.e 10 (.q 11 .nil)))) 8 (.e 7 (.e 9 (.e 10 (.q 11 .nil))))))))) 7 (.b2 2 (.q 3 (.q 4 (.q 5 (.q 6 (.e 8 (.e 9 (.e 10 (.q 11 .nil)))))))) 8 (.e 2 (.q 3 (.q 4 (.q 5 (.q 6 (.e 9 (.e 10 (.q 11 .nil))))))))) 8 (.b2 2 (.q 3 (.q 4 (.q 5 (.q 6 (.e 7 (.e 9 (.e 10 (.q 11 .nil)))))))) 7 (.e 2 (.q 3 (.q 4 (.q 5 (.q 6 (.e 9 (.e 10 (.q 11 .nil)))))))))) 7 (.b2 0 (.b2 2 (.q 3 (.q 4 (.q 5 (.q 6 (.e 8 (.e 9 (.e 10 (.q 11 .nil)))))))) 8 (.e 2 (.q 3 (.q 4 (.q 5 (.q 6 (.e 9 (.e 10 (.q 11 .nil))))))))) 8 (.e 0 (.e 2 (.q 3 (.q 4 (.q 5 (.q 6 (.e 9 (.e 10 (.q 11 .nil)))))))))) 8 (.b2 0 (.b2 2 (.q 3 (.q 4 (.q 5 (.q 6 (.e 7 (.e 9 (.e 10 (.q 11 .nil)))))))) 7 (.e 2 (.q 3 (.q 4 (.q 5 (.q 6 (.e 9 (.e 10 (.q 11 .nil))))))))) 7 (.e 0 (.e 2 (.q 3 (.q 4 (.q 5 (.q 6 (.e 9 (.e 10 (.q 11 .nil)))))))))))) (by kernel_rfl) (by kernel_rfl) (S.sel [0] rfl rfl) fun K3 k3 => ?_
 refine wt_does H rfl rfl (fun _ S => (does_loadBox agg_76 sz_76 rfl S (i := 0) rfl rfl)) ?_;clear H a;intro a H
 refine wt_b3 rfl rfl rfl ?_ ?_ ?_
 ·skip
  refine list_call H rfl rfl Try.func25 rfl rfl (dlaw_Example _) ?_;clear H a
  rintro _ _ a ⟨A4, rfl, S2⟩ H
  replace S := S.call S2;clear S2
  refine wpList_nil (And.intro (Or.inr (S.sel [1] rfl rfl)) ?_)
  refine wt_b3 rfl rfl rfl ?_ ?_ ?_
  ·skip
   refine list_call H rfl rfl Try.func24 rfl rfl (drv_Distance true 1000 20 2000 20000 exBr A4 2 60 0 500 0 _ (ownM.inS S (i := 0) rfl) (by decide)) ?_;clear H a
   rintro _ _ a ⟨tl, th, rfl, S2⟩ H
   replace S := S.call S2;clear S2
   rw [ex_dist] at H
   refine wpList_nil (And.intro (Or.inr (S.sel [1] rfl rfl)) ?_)
   refine wt_does H rfl rfl (fun _ S => does_move rfl) ?_;clear H a;intro a H
   refine wt_does H rfl rfl (fun _ S => does_extract rfl rfl) ?_;clear H a;intro a H
   refine wt_does H rfl rfl (fun _ S => does_extract rfl rfl) ?_;clear H a;intro a H
   refine wt_does H rfl rfl (fun _ S => does_extract rfl rfl) ?_;clear H a;intro a H
   refine wt_b2 rfl rfl ?_ ?_
   ·skip
    refine list_alloc H rfl S ze_36 ?_;clear H a S;intro b2 _ a hb2 hbw2 S H
    refine wpList_nil (And.intro (Or.inr (S.sel [2] rfl rfl)) ?_)
    refine wt_eff rfl ?_
    refine list_alloc H rfl S ze_36 ?_;clear H a S;intro b3 _ a hb3 hbw3 S H
    refine wpList_nil (And.intro (Or.inr (S.sel [3] rfl rfl)) ?_)
    refine wt_eff rfl ?_
    refine list_store H S (i := 1) rfl rfl rfl rfl sz_36 rfl rfl ?_
    clear H a S;intro _ a S H
    refine wpList_nil (And.intro (Or.inr (S.sel [3] rfl rfl)) ?_)
    refine wt_eff rfl ?_
    refine list_store H S (i := 0) rfl rfl rfl rfl sz_36 rfl rfl ?_
    clear H a S;intro _ a S H
    refine wpList_nil (And.intro (Or.inr (S.sel [3] rfl rfl)) ?_)
    refine wt_does H rfl rfl (fun _ S => does_assign rfl) ?_;clear H a;intro a H
    refine wt_nil ?_
    refine k3 _ _ ?_
    clear k3 K3
    replace H := H.keep [2, 4] rfl
    refine seq_list fun K4 k4 => ?_
    refine list_call H rfl rfl Try.func26 rfl rfl (claw_Example _) ?_;clear H a
    rintro _ _ a ⟨SA, B0, B1, B2, B3, B4, QA, TA, rfl, S2⟩ H
    replace S := S.call S2;clear S2
    refine ls 3 H <| sr 3 rfl <| sE ?_;clear H a;intro a H
    refine list_alloc H rfl S ze_85 ?_;clear H a S;intro b5 _ a hb5 hbw5 S H
    refine list_store H S (i := 0) rfl rfl rfl rfl sz_85 rfl rfl ?_
    clear H a S;intro _ a S H
    refine ls 1 H <| sr 1 rfl <| sE ?_;clear H a;intro a H
    refine k4 _ _ ?_;clear k4 K4
    replace H := H.keep [2, 4, 5] rfl
    refine seq_list fun K5 k5 => ?_
    refine ls 1 H <| sd ((does_loadBox agg_85 sz_85 rfl S (i := 0) rfl rfl)) <| sE ?_;clear H a;intro a H
    refine list_call H rfl rfl Try.func27 rfl rfl (cir_Pairs 2 exSw SA 4 exWs QA 5 (exOA B0 B1 B2 B3 B4) exOc _ (ownM.inS S (i := 1) rfl) (ownM.inS S (i := 7) rfl) (fun k hk => by
      rcases k with _ | _ | _ | _ | _ | k
      · exact ownM.inS S (i := 2) rfl
      · exact ownM.inS S (i := 3) rfl
      · exact ownM.inS S (i := 4) rfl
      · exact ownM.inS S (i := 5) rfl
      · exact ownM.inS S (i := 6) rfl
      · exact absurd hk (by simp [exWs])
    ) exCir) ?_;clear H a
    rintro _ _ a ⟨A6, c6, rfl, S2⟩ H
    replace S := S.call S2;clear S2
    rw [exPairs] at H
    refine ls 5 H <| sr 5 rfl <| sE ?_;clear H a;intro a H
    refine k5 _ _ ?_;clear k5 K5
    replace H := H.keep [2, 4, 7, 8] rfl
    refine sS H fun K6 k6=>sr 3 rfl <| sg 2 2 29 31 true rfl rfl (fun hg3 => sy hg3 <| sr 1 rfl <| sy hg3 <| sr 1 rfl <| sz 2 rfl rfl rfl) <| sa rfl rfl rfl <| sr 1 rfl <| sg 3 6 33 36 true rfl rfl (fun hg7 => sy hg7 <| sd ((does_loadBox agg_36 sz_36 rfl S (i := 9) rfl rfl)) <| sy hg7 <| sd (does_build bt_36 rfl rfl) <| sy hg7 <| sd (does_eql_span rfl rfl) <| sz 3 rfl rfl rfl) <| sa rfl rfl rfl <| sr 1 rfl <| sg 3 11 38 41 true rfl rfl (fun hg12 => sy hg12 <| sr 1 rfl <| sy hg12 <| sL sl_89 rfl <| sy hg12 <| sr 1 rfl <| sz 3 rfl rfl rfl) <| sa rfl rfl rfl <| sr 1 rfl <| sE ?_;clear H a;intro a H
    refine k6 _ ?_;clear k6 K6
    refine wp_ret ?_
    refine ret1 (fn := Try.f8) rfl H rfl ?_
    exact ⟨rfl, (S.sel [] rfl rfl)⟩
   ·skip
    refine list_alloc H rfl S ze_36 ?_;clear H a S;intro b3 _ a hb3 hbw3 S H
    refine wpList_nil (And.intro (Or.inr (S.sel [2] rfl rfl)) ?_)
    refine wt_eff rfl ?_
    refine list_alloc H rfl S ze_36 ?_;clear H a S;intro b2 _ a hb2 hbw2 S H
    refine wpList_nil (And.intro (Or.inr (S.sel [3] rfl rfl)) ?_)
    refine wt_eff rfl ?_
    refine list_store H S (i := 0) rfl rfl rfl rfl sz_36 rfl rfl ?_
    clear H a S;intro _ a S H
    refine wpList_nil (And.intro (Or.inr (S.sel [3] rfl rfl)) ?_)
    refine wt_eff rfl ?_
    refine list_store H S (i := 1) rfl rfl rfl rfl sz_36 rfl rfl ?_
    clear H a S;intro _ a S H
    refine wpList_nil (And.intro (Or.inr (S.sel [3] rfl rfl)) ?_)
    refine wt_does H rfl rfl (fun _ S => does_assign rfl) ?_;clear H a;intro a H
    refine wt_nil ?_
    refine k3 _ _ ?_
    clear k3 K3
    replace H := H.keep [2, 4] rfl
    refine seq_list fun K7 k7 => ?_
    refine list_call H rfl rfl Try.func26 rfl rfl (claw_Example _) ?_;clear H a
    rintro _ _ a ⟨SA, B0, B1, B2, B3, B4, QA, TA, rfl, S2⟩ H
    replace S := S.call S2;clear S2
    refine ls 3 H <| sr 3 rfl <| sE ?_;clear H a;intro a H
    refine list_alloc H rfl S ze_85 ?_;clear H a S;intro b5 _ a hb5 hbw5 S H
    refine list_store H S (i := 0) rfl rfl rfl rfl sz_85 rfl rfl ?_
    clear H a S;intro _ a S H
    refine ls 1 H <| sr 1 rfl <| sE ?_;clear H a;intro a H
    refine k7 _ _ ?_;clear k7 K7
    replace H := H.keep [2, 4, 5] rfl
    refine seq_list fun K8 k8 => ?_
    refine ls 1 H <| sd ((does_loadBox agg_85 sz_85 rfl S (i := 0) rfl rfl)) <| sE ?_;clear H a;intro a H
    refine list_call H rfl rfl Try.func27 rfl rfl (cir_Pairs 2 exSw SA 4 exWs QA 5 (exOA B0 B1 B2 B3 B4) exOc _ (ownM.inS S (i := 1) rfl) (ownM.inS S (i := 7) rfl) (fun k hk => by
      rcases k with _ | _ | _ | _ | _ | k
      · exact ownM.inS S (i := 2) rfl
      · exact ownM.inS S (i := 3) rfl
      · exact ownM.inS S (i := 4) rfl
      · exact ownM.inS S (i := 5) rfl
      · exact ownM.inS S (i := 6) rfl
      · exact absurd hk (by simp [exWs])
    ) exCir) ?_;clear H a
    rintro _ _ a ⟨A6, c6, rfl, S2⟩ H
    replace S := S.call S2;clear S2
    rw [exPairs] at H
    refine ls 5 H <| sr 5 rfl <| sE ?_;clear H a;intro a H
    refine k8 _ _ ?_;clear k8 K8
    replace H := H.keep [2, 4, 7, 8] rfl
    refine sS H fun K9 k9=>sr 3 rfl <| sg 2 2 29 31 true rfl rfl (fun hg3 => sy hg3 <| sr 1 rfl <| sy hg3 <| sr 1 rfl <| sz 2 rfl rfl rfl) <| sa rfl rfl rfl <| sr 1 rfl <| sg 3 6 33 36 true rfl rfl (fun hg7 => sy hg7 <| sd ((does_loadBox agg_36 sz_36 rfl S (i := 8) rfl rfl)) <| sy hg7 <| sd (does_build bt_36 rfl rfl) <| sy hg7 <| sd (does_eql_span rfl rfl) <| sz 3 rfl rfl rfl) <| sa rfl rfl rfl <| sr 1 rfl <| sg 3 11 38 41 true rfl rfl (fun hg12 => sy hg12 <| sr 1 rfl <| sy hg12 <| sL sl_89 rfl <| sy hg12 <| sr 1 rfl <| sz 3 rfl rfl rfl) <| sa rfl rfl rfl <| sr 1 rfl <| sE ?_;clear H a;intro a H
    refine k9 _ ?_;clear k9 K9
    refine wp_ret ?_
    refine ret1 (fn := Try.f8) rfl H rfl ?_
    exact ⟨rfl, (S.sel [] rfl rfl)⟩
  ·skip
   refine list_alloc H rfl S ze_36 ?_;clear H a S;intro b2 _ a hb2 hbw2 S H
   refine wpList_nil (And.intro (Or.inr (S.sel [2] rfl rfl)) ?_)
   refine wt_b2 rfl rfl ?_ ?_
   ·skip
    refine list_call H rfl rfl Try.func24 rfl rfl (drv_Distance true 1000 20 2000 20000 exBr A4 2 60 0 500 0 _ (ownM.inS S (i := 1) rfl) (by decide)) ?_;clear H a
    rintro _ _ a ⟨tl, th, rfl, S2⟩ H
    replace S := S.call S2;clear S2
    rw [ex_dist] at H
    refine wpList_nil (And.intro (Or.inr (S.sel [2] rfl rfl)) ?_)
    refine wt_does H rfl rfl (fun _ S => does_move rfl) ?_;clear H a;intro a H
    refine wt_does H rfl rfl (fun _ S => does_extract rfl rfl) ?_;clear H a;intro a H
    refine wt_does H rfl rfl (fun _ S => does_extract rfl rfl) ?_;clear H a;intro a H
    refine wt_does H rfl rfl (fun _ S => does_extract rfl rfl) ?_;clear H a;intro a H
    refine wt_eff rfl ?_
    refine list_alloc H rfl S ze_36 ?_;clear H a S;intro b3 _ a hb3 hbw3 S H
    refine wpList_nil (And.intro (Or.inr (S.sel [3] rfl rfl)) ?_)
    refine wt_eff rfl ?_
    refine list_store H S (i := 1) rfl rfl rfl rfl sz_36 rfl rfl ?_
    clear H a S;intro _ a S H
    refine wpList_nil (And.intro (Or.inr (S.sel [3] rfl rfl)) ?_)
    refine wt_eff rfl ?_
    refine list_store H S (i := 0) rfl rfl rfl rfl sz_36 rfl rfl ?_
    clear H a S;intro _ a S H
    refine wpList_nil (And.intro (Or.inr (S.sel [3] rfl rfl)) ?_)
    refine wt_does H rfl rfl (fun _ S => does_assign rfl) ?_;clear H a;intro a H
    refine wt_nil ?_
    refine k3 _ _ ?_
    clear k3 K3
    replace H := H.keep [2, 4] rfl
    refine seq_list fun K10 k10 => ?_
    refine list_call H rfl rfl Try.func26 rfl rfl (claw_Example _) ?_;clear H a
    rintro _ _ a ⟨SA, B0, B1, B2, B3, B4, QA, TA, rfl, S2⟩ H
    replace S := S.call S2;clear S2
    refine ls 3 H <| sr 3 rfl <| sE ?_;clear H a;intro a H
    refine list_alloc H rfl S ze_85 ?_;clear H a S;intro b5 _ a hb5 hbw5 S H
    refine list_store H S (i := 0) rfl rfl rfl rfl sz_85 rfl rfl ?_
    clear H a S;intro _ a S H
    refine ls 1 H <| sr 1 rfl <| sE ?_;clear H a;intro a H
    refine k10 _ _ ?_;clear k10 K10
    replace H := H.keep [2, 4, 5] rfl
    refine seq_list fun K11 k11 => ?_
    refine ls 1 H <| sd ((does_loadBox agg_85 sz_85 rfl S (i := 0) rfl rfl)) <| sE ?_;clear H a;intro a H
    refine list_call H rfl rfl Try.func27 rfl rfl (cir_Pairs 2 exSw SA 4 exWs QA 5 (exOA B0 B1 B2 B3 B4) exOc _ (ownM.inS S (i := 1) rfl) (ownM.inS S (i := 7) rfl) (fun k hk => by
      rcases k with _ | _ | _ | _ | _ | k
      · exact ownM.inS S (i := 2) rfl
      · exact ownM.inS S (i := 3) rfl
      · exact ownM.inS S (i := 4) rfl
      · exact ownM.inS S (i := 5) rfl
      · exact ownM.inS S (i := 6) rfl
      · exact absurd hk (by simp [exWs])
    ) exCir) ?_;clear H a
    rintro _ _ a ⟨A6, c6, rfl, S2⟩ H
    replace S := S.call S2;clear S2
    rw [exPairs] at H
    refine ls 5 H <| sr 5 rfl <| sE ?_;clear H a;intro a H
    refine k11 _ _ ?_;clear k11 K11
    replace H := H.keep [2, 4, 7, 8] rfl
    refine sS H fun K12 k12=>sr 3 rfl <| sg 2 2 29 31 true rfl rfl (fun hg3 => sy hg3 <| sr 1 rfl <| sy hg3 <| sr 1 rfl <| sz 2 rfl rfl rfl) <| sa rfl rfl rfl <| sr 1 rfl <| sg 3 6 33 36 true rfl rfl (fun hg7 => sy hg7 <| sd ((does_loadBox agg_36 sz_36 rfl S (i := 9) rfl rfl)) <| sy hg7 <| sd (does_build bt_36 rfl rfl) <| sy hg7 <| sd (does_eql_span rfl rfl) <| sz 3 rfl rfl rfl) <| sa rfl rfl rfl <| sr 1 rfl <| sg 3 11 38 41 true rfl rfl (fun hg12 => sy hg12 <| sr 1 rfl <| sy hg12 <| sL sl_89 rfl <| sy hg12 <| sr 1 rfl <| sz 3 rfl rfl rfl) <| sa rfl rfl rfl <| sr 1 rfl <| sE ?_;clear H a;intro a H
    refine k12 _ ?_;clear k12 K12
    refine wp_ret ?_
    refine ret1 (fn := Try.f8) rfl H rfl ?_
    exact ⟨rfl, (S.sel [] rfl rfl)⟩
   ·skip
    refine list_alloc H rfl S ze_36 ?_;clear H a S;intro b3 _ a hb3 hbw3 S H
    refine wpList_nil (And.intro (Or.inr (S.sel [3] rfl rfl)) ?_)
    refine wt_eff rfl ?_
    refine list_call H rfl rfl Try.func24 rfl rfl (drv_Distance true 1000 20 2000 20000 exBr A4 2 60 0 500 0 _ (ownM.inS S (i := 2) rfl) (by decide)) ?_;clear H a
    rintro _ _ a ⟨tl, th, rfl, S2⟩ H
    replace S := S.call S2;clear S2
    rw [ex_dist] at H
    refine wpList_nil (And.intro (Or.inr (S.sel [3] rfl rfl)) ?_)
    refine wt_does H rfl rfl (fun _ S => does_move rfl) ?_;clear H a;intro a H
    refine wt_does H rfl rfl (fun _ S => does_extract rfl rfl) ?_;clear H a;intro a H
    refine wt_does H rfl rfl (fun _ S => does_extract rfl rfl) ?_;clear H a;intro a H
    refine wt_does H rfl rfl (fun _ S => does_extract rfl rfl) ?_;clear H a;intro a H
    refine wt_eff rfl ?_
    refine list_store H S (i := 1) rfl rfl rfl rfl sz_36 rfl rfl ?_
    clear H a S;intro _ a S H
    refine wpList_nil (And.intro (Or.inr (S.sel [3] rfl rfl)) ?_)
    refine wt_eff rfl ?_
    refine list_store H S (i := 0) rfl rfl rfl rfl sz_36 rfl rfl ?_
    clear H a S;intro _ a S H
    refine wpList_nil (And.intro (Or.inr (S.sel [3] rfl rfl)) ?_)
    refine wt_does H rfl rfl (fun _ S => does_assign rfl) ?_;clear H a;intro a H
    refine wt_nil ?_
    refine k3 _ _ ?_
    clear k3 K3
    replace H := H.keep [2, 4] rfl
    refine seq_list fun K13 k13 => ?_
    refine list_call H rfl rfl Try.func26 rfl rfl (claw_Example _) ?_;clear H a
    rintro _ _ a ⟨SA, B0, B1, B2, B3, B4, QA, TA, rfl, S2⟩ H
    replace S := S.call S2;clear S2
    refine ls 3 H <| sr 3 rfl <| sE ?_;clear H a;intro a H
    refine list_alloc H rfl S ze_85 ?_;clear H a S;intro b5 _ a hb5 hbw5 S H
    refine list_store H S (i := 0) rfl rfl rfl rfl sz_85 rfl rfl ?_
    clear H a S;intro _ a S H
    refine ls 1 H <| sr 1 rfl <| sE ?_;clear H a;intro a H
    refine k13 _ _ ?_;clear k13 K13
    replace H := H.keep [2, 4, 5] rfl
    refine seq_list fun K14 k14 => ?_
    refine ls 1 H <| sd ((does_loadBox agg_85 sz_85 rfl S (i := 0) rfl rfl)) <| sE ?_;clear H a;intro a H
    refine list_call H rfl rfl Try.func27 rfl rfl (cir_Pairs 2 exSw SA 4 exWs QA 5 (exOA B0 B1 B2 B3 B4) exOc _ (ownM.inS S (i := 1) rfl) (ownM.inS S (i := 7) rfl) (fun k hk => by
      rcases k with _ | _ | _ | _ | _ | k
      · exact ownM.inS S (i := 2) rfl
      · exact ownM.inS S (i := 3) rfl
      · exact ownM.inS S (i := 4) rfl
      · exact ownM.inS S (i := 5) rfl
      · exact ownM.inS S (i := 6) rfl
      · exact absurd hk (by simp [exWs])
    ) exCir) ?_;clear H a
    rintro _ _ a ⟨A6, c6, rfl, S2⟩ H
    replace S := S.call S2;clear S2
    rw [exPairs] at H
    refine ls 5 H <| sr 5 rfl <| sE ?_;clear H a;intro a H
    refine k14 _ _ ?_;clear k14 K14
    replace H := H.keep [2, 4, 7, 8] rfl
    refine sS H fun K15 k15=>sr 3 rfl <| sg 2 2 29 31 true rfl rfl (fun hg3 => sy hg3 <| sr 1 rfl <| sy hg3 <| sr 1 rfl <| sz 2 rfl rfl rfl) <| sa rfl rfl rfl <| sr 1 rfl <| sg 3 6 33 36 true rfl rfl (fun hg7 => sy hg7 <| sd ((does_loadBox agg_36 sz_36 rfl S (i := 9) rfl rfl)) <| sy hg7 <| sd (does_build bt_36 rfl rfl) <| sy hg7 <| sd (does_eql_span rfl rfl) <| sz 3 rfl rfl rfl) <| sa rfl rfl rfl <| sr 1 rfl <| sg 3 11 38 41 true rfl rfl (fun hg12 => sy hg12 <| sr 1 rfl <| sy hg12 <| sL sl_89 rfl <| sy hg12 <| sr 1 rfl <| sz 3 rfl rfl rfl) <| sa rfl rfl rfl <| sr 1 rfl <| sE ?_;clear H a;intro a H
    refine k15 _ ?_;clear k15 K15
    refine wp_ret ?_
    refine ret1 (fn := Try.f8) rfl H rfl ?_
    exact ⟨rfl, (S.sel [] rfl rfl)⟩
  ·skip
   refine list_alloc H rfl S ze_36 ?_;clear H a S;intro b3 _ a hb3 hbw3 S H
   refine wpList_nil (And.intro (Or.inr (S.sel [2] rfl rfl)) ?_)
   refine wt_b2 rfl rfl ?_ ?_
   ·skip
    refine list_call H rfl rfl Try.func24 rfl rfl (drv_Distance true 1000 20 2000 20000 exBr A4 2 60 0 500 0 _ (ownM.inS S (i := 1) rfl) (by decide)) ?_;clear H a
    rintro _ _ a ⟨tl, th, rfl, S2⟩ H
    replace S := S.call S2;clear S2
    rw [ex_dist] at H
    refine wpList_nil (And.intro (Or.inr (S.sel [2] rfl rfl)) ?_)
    refine wt_does H rfl rfl (fun _ S => does_move rfl) ?_;clear H a;intro a H
    refine wt_does H rfl rfl (fun _ S => does_extract rfl rfl) ?_;clear H a;intro a H
    refine wt_does H rfl rfl (fun _ S => does_extract rfl rfl) ?_;clear H a;intro a H
    refine wt_does H rfl rfl (fun _ S => does_extract rfl rfl) ?_;clear H a;intro a H
    refine wt_eff rfl ?_
    refine list_alloc H rfl S ze_36 ?_;clear H a S;intro b2 _ a hb2 hbw2 S H
    refine wpList_nil (And.intro (Or.inr (S.sel [3] rfl rfl)) ?_)
    refine wt_eff rfl ?_
    refine list_store H S (i := 0) rfl rfl rfl rfl sz_36 rfl rfl ?_
    clear H a S;intro _ a S H
    refine wpList_nil (And.intro (Or.inr (S.sel [3] rfl rfl)) ?_)
    refine wt_eff rfl ?_
    refine list_store H S (i := 1) rfl rfl rfl rfl sz_36 rfl rfl ?_
    clear H a S;intro _ a S H
    refine wpList_nil (And.intro (Or.inr (S.sel [3] rfl rfl)) ?_)
    refine wt_does H rfl rfl (fun _ S => does_assign rfl) ?_;clear H a;intro a H
    refine wt_nil ?_
    refine k3 _ _ ?_
    clear k3 K3
    replace H := H.keep [2, 4] rfl
    refine seq_list fun K16 k16 => ?_
    refine list_call H rfl rfl Try.func26 rfl rfl (claw_Example _) ?_;clear H a
    rintro _ _ a ⟨SA, B0, B1, B2, B3, B4, QA, TA, rfl, S2⟩ H
    replace S := S.call S2;clear S2
    refine ls 3 H <| sr 3 rfl <| sE ?_;clear H a;intro a H
    refine list_alloc H rfl S ze_85 ?_;clear H a S;intro b5 _ a hb5 hbw5 S H
    refine list_store H S (i := 0) rfl rfl rfl rfl sz_85 rfl rfl ?_
    clear H a S;intro _ a S H
    refine ls 1 H <| sr 1 rfl <| sE ?_;clear H a;intro a H
    refine k16 _ _ ?_;clear k16 K16
    replace H := H.keep [2, 4, 5] rfl
    refine seq_list fun K17 k17 => ?_
    refine ls 1 H <| sd ((does_loadBox agg_85 sz_85 rfl S (i := 0) rfl rfl)) <| sE ?_;clear H a;intro a H
    refine list_call H rfl rfl Try.func27 rfl rfl (cir_Pairs 2 exSw SA 4 exWs QA 5 (exOA B0 B1 B2 B3 B4) exOc _ (ownM.inS S (i := 1) rfl) (ownM.inS S (i := 7) rfl) (fun k hk => by
      rcases k with _ | _ | _ | _ | _ | k
      · exact ownM.inS S (i := 2) rfl
      · exact ownM.inS S (i := 3) rfl
      · exact ownM.inS S (i := 4) rfl
      · exact ownM.inS S (i := 5) rfl
      · exact ownM.inS S (i := 6) rfl
      · exact absurd hk (by simp [exWs])
    ) exCir) ?_;clear H a
    rintro _ _ a ⟨A6, c6, rfl, S2⟩ H
    replace S := S.call S2;clear S2
    rw [exPairs] at H
    refine ls 5 H <| sr 5 rfl <| sE ?_;clear H a;intro a H
    refine k17 _ _ ?_;clear k17 K17
    replace H := H.keep [2, 4, 7, 8] rfl
    refine sS H fun K18 k18=>sr 3 rfl <| sg 2 2 29 31 true rfl rfl (fun hg3 => sy hg3 <| sr 1 rfl <| sy hg3 <| sr 1 rfl <| sz 2 rfl rfl rfl) <| sa rfl rfl rfl <| sr 1 rfl <| sg 3 6 33 36 true rfl rfl (fun hg7 => sy hg7 <| sd ((does_loadBox agg_36 sz_36 rfl S (i := 8) rfl rfl)) <| sy hg7 <| sd (does_build bt_36 rfl rfl) <| sy hg7 <| sd (does_eql_span rfl rfl) <| sz 3 rfl rfl rfl) <| sa rfl rfl rfl <| sr 1 rfl <| sg 3 11 38 41 true rfl rfl (fun hg12 => sy hg12 <| sr 1 rfl <| sy hg12 <| sL sl_89 rfl <| sy hg12 <| sr 1 rfl <| sz 3 rfl rfl rfl) <| sa rfl rfl rfl <| sr 1 rfl <| sE ?_;clear H a;intro a H
    refine k18 _ ?_;clear k18 K18
    refine wp_ret ?_
    refine ret1 (fn := Try.f8) rfl H rfl ?_
    exact ⟨rfl, (S.sel [] rfl rfl)⟩
   ·skip
    refine list_alloc H rfl S ze_36 ?_;clear H a S;intro b2 _ a hb2 hbw2 S H
    refine wpList_nil (And.intro (Or.inr (S.sel [3] rfl rfl)) ?_)
    refine wt_eff rfl ?_
    refine list_call H rfl rfl Try.func24 rfl rfl (drv_Distance true 1000 20 2000 20000 exBr A4 2 60 0 500 0 _ (ownM.inS S (i := 2) rfl) (by decide)) ?_;clear H a
    rintro _ _ a ⟨tl, th, rfl, S2⟩ H
    replace S := S.call S2;clear S2
    rw [ex_dist] at H
    refine wpList_nil (And.intro (Or.inr (S.sel [3] rfl rfl)) ?_)
    refine wt_does H rfl rfl (fun _ S => does_move rfl) ?_;clear H a;intro a H
    refine wt_does H rfl rfl (fun _ S => does_extract rfl rfl) ?_;clear H a;intro a H
    refine wt_does H rfl rfl (fun _ S => does_extract rfl rfl) ?_;clear H a;intro a H
    refine wt_does H rfl rfl (fun _ S => does_extract rfl rfl) ?_;clear H a;intro a H
    refine wt_eff rfl ?_
    refine list_store H S (i := 0) rfl rfl rfl rfl sz_36 rfl rfl ?_
    clear H a S;intro _ a S H
    refine wpList_nil (And.intro (Or.inr (S.sel [3] rfl rfl)) ?_)
    refine wt_eff rfl ?_
    refine list_store H S (i := 1) rfl rfl rfl rfl sz_36 rfl rfl ?_
    clear H a S;intro _ a S H
    refine wpList_nil (And.intro (Or.inr (S.sel [3] rfl rfl)) ?_)
    refine wt_does H rfl rfl (fun _ S => does_assign rfl) ?_;clear H a;intro a H
    refine wt_nil ?_
    refine k3 _ _ ?_
    clear k3 K3
    replace H := H.keep [2, 4] rfl
    refine seq_list fun K19 k19 => ?_
    refine list_call H rfl rfl Try.func26 rfl rfl (claw_Example _) ?_;clear H a
    rintro _ _ a ⟨SA, B0, B1, B2, B3, B4, QA, TA, rfl, S2⟩ H
    replace S := S.call S2;clear S2
    refine ls 3 H <| sr 3 rfl <| sE ?_;clear H a;intro a H
    refine list_alloc H rfl S ze_85 ?_;clear H a S;intro b5 _ a hb5 hbw5 S H
    refine list_store H S (i := 0) rfl rfl rfl rfl sz_85 rfl rfl ?_
    clear H a S;intro _ a S H
    refine ls 1 H <| sr 1 rfl <| sE ?_;clear H a;intro a H
    refine k19 _ _ ?_;clear k19 K19
    replace H := H.keep [2, 4, 5] rfl
    refine seq_list fun K20 k20 => ?_
    refine ls 1 H <| sd ((does_loadBox agg_85 sz_85 rfl S (i := 0) rfl rfl)) <| sE ?_;clear H a;intro a H
    refine list_call H rfl rfl Try.func27 rfl rfl (cir_Pairs 2 exSw SA 4 exWs QA 5 (exOA B0 B1 B2 B3 B4) exOc _ (ownM.inS S (i := 1) rfl) (ownM.inS S (i := 7) rfl) (fun k hk => by
      rcases k with _ | _ | _ | _ | _ | k
      · exact ownM.inS S (i := 2) rfl
      · exact ownM.inS S (i := 3) rfl
      · exact ownM.inS S (i := 4) rfl
      · exact ownM.inS S (i := 5) rfl
      · exact ownM.inS S (i := 6) rfl
      · exact absurd hk (by simp [exWs])
    ) exCir) ?_;clear H a
    rintro _ _ a ⟨A6, c6, rfl, S2⟩ H
    replace S := S.call S2;clear S2
    rw [exPairs] at H
    refine ls 5 H <| sr 5 rfl <| sE ?_;clear H a;intro a H
    refine k20 _ _ ?_;clear k20 K20
    replace H := H.keep [2, 4, 7, 8] rfl
    refine sS H fun K21 k21=>sr 3 rfl <| sg 2 2 29 31 true rfl rfl (fun hg3 => sy hg3 <| sr 1 rfl <| sy hg3 <| sr 1 rfl <| sz 2 rfl rfl rfl) <| sa rfl rfl rfl <| sr 1 rfl <| sg 3 6 33 36 true rfl rfl (fun hg7 => sy hg7 <| sd ((does_loadBox agg_36 sz_36 rfl S (i := 8) rfl rfl)) <| sy hg7 <| sd (does_build bt_36 rfl rfl) <| sy hg7 <| sd (does_eql_span rfl rfl) <| sz 3 rfl rfl rfl) <| sa rfl rfl rfl <| sr 1 rfl <| sg 3 11 38 41 true rfl rfl (fun hg12 => sy hg12 <| sr 1 rfl <| sy hg12 <| sL sl_89 rfl <| sy hg12 <| sr 1 rfl <| sz 3 rfl rfl rfl) <| sa rfl rfl rfl <| sr 1 rfl <| sE ?_;clear H a;intro a H
    refine k21 _ ?_;clear k21 K21
    refine wp_ret ?_
    refine ret1 (fn := Try.f8) rfl H rfl ?_
    exact ⟨rfl, (S.sel [] rfl rfl)⟩
 ·skip
  refine list_alloc H rfl S ze_36 ?_;clear H a S;intro b2 _ a hb2 hbw2 S H
  refine wpList_nil (And.intro (Or.inr (S.sel [1] rfl rfl)) ?_)
  refine wt_b2 rfl rfl ?_ ?_
  ·skip
   refine list_call H rfl rfl Try.func25 rfl rfl (dlaw_Example _) ?_;clear H a
   rintro _ _ a ⟨A4, rfl, S2⟩ H
   replace S := S.call S2;clear S2
   refine wpList_nil (And.intro (Or.inr (S.sel [2] rfl rfl)) ?_)
   refine wt_b2 rfl rfl ?_ ?_
   ·skip
    refine list_call H rfl rfl Try.func24 rfl rfl (drv_Distance true 1000 20 2000 20000 exBr A4 2 60 0 500 0 _ (ownM.inS S (i := 0) rfl) (by decide)) ?_;clear H a
    rintro _ _ a ⟨tl, th, rfl, S2⟩ H
    replace S := S.call S2;clear S2
    rw [ex_dist] at H
    refine wpList_nil (And.intro (Or.inr (S.sel [2] rfl rfl)) ?_)
    refine wt_does H rfl rfl (fun _ S => does_move rfl) ?_;clear H a;intro a H
    refine wt_does H rfl rfl (fun _ S => does_extract rfl rfl) ?_;clear H a;intro a H
    refine wt_does H rfl rfl (fun _ S => does_extract rfl rfl) ?_;clear H a;intro a H
    refine wt_does H rfl rfl (fun _ S => does_extract rfl rfl) ?_;clear H a;intro a H
    refine wt_eff rfl ?_
    refine list_alloc H rfl S ze_36 ?_;clear H a S;intro b3 _ a hb3 hbw3 S H
    refine wpList_nil (And.intro (Or.inr (S.sel [3] rfl rfl)) ?_)
    refine wt_eff rfl ?_
    refine list_store H S (i := 2) rfl rfl rfl rfl sz_36 rfl rfl ?_
    clear H a S;intro _ a S H
    refine wpList_nil (And.intro (Or.inr (S.sel [3] rfl rfl)) ?_)
    refine wt_eff rfl ?_
    refine list_store H S (i := 0) rfl rfl rfl rfl sz_36 rfl rfl ?_
    clear H a S;intro _ a S H
    refine wpList_nil (And.intro (Or.inr (S.sel [3] rfl rfl)) ?_)
    refine wt_does H rfl rfl (fun _ S => does_assign rfl) ?_;clear H a;intro a H
    refine wt_nil ?_
    refine k3 _ _ ?_
    clear k3 K3
    replace H := H.keep [2, 4] rfl
    refine seq_list fun K22 k22 => ?_
    refine list_call H rfl rfl Try.func26 rfl rfl (claw_Example _) ?_;clear H a
    rintro _ _ a ⟨SA, B0, B1, B2, B3, B4, QA, TA, rfl, S2⟩ H
    replace S := S.call S2;clear S2
    refine ls 3 H <| sr 3 rfl <| sE ?_;clear H a;intro a H
    refine list_alloc H rfl S ze_85 ?_;clear H a S;intro b5 _ a hb5 hbw5 S H
    refine list_store H S (i := 0) rfl rfl rfl rfl sz_85 rfl rfl ?_
    clear H a S;intro _ a S H
    refine ls 1 H <| sr 1 rfl <| sE ?_;clear H a;intro a H
    refine k22 _ _ ?_;clear k22 K22
    replace H := H.keep [2, 4, 5] rfl
    refine seq_list fun K23 k23 => ?_
    refine ls 1 H <| sd ((does_loadBox agg_85 sz_85 rfl S (i := 0) rfl rfl)) <| sE ?_;clear H a;intro a H
    refine list_call H rfl rfl Try.func27 rfl rfl (cir_Pairs 2 exSw SA 4 exWs QA 5 (exOA B0 B1 B2 B3 B4) exOc _ (ownM.inS S (i := 1) rfl) (ownM.inS S (i := 7) rfl) (fun k hk => by
      rcases k with _ | _ | _ | _ | _ | k
      · exact ownM.inS S (i := 2) rfl
      · exact ownM.inS S (i := 3) rfl
      · exact ownM.inS S (i := 4) rfl
      · exact ownM.inS S (i := 5) rfl
      · exact ownM.inS S (i := 6) rfl
      · exact absurd hk (by simp [exWs])
    ) exCir) ?_;clear H a
    rintro _ _ a ⟨A6, c6, rfl, S2⟩ H
    replace S := S.call S2;clear S2
    rw [exPairs] at H
    refine ls 5 H <| sr 5 rfl <| sE ?_;clear H a;intro a H
    refine k23 _ _ ?_;clear k23 K23
    replace H := H.keep [2, 4, 7, 8] rfl
    refine sS H fun K24 k24=>sr 3 rfl <| sg 2 2 29 31 true rfl rfl (fun hg3 => sy hg3 <| sr 1 rfl <| sy hg3 <| sr 1 rfl <| sz 2 rfl rfl rfl) <| sa rfl rfl rfl <| sr 1 rfl <| sg 3 6 33 36 true rfl rfl (fun hg7 => sy hg7 <| sd ((does_loadBox agg_36 sz_36 rfl S (i := 10) rfl rfl)) <| sy hg7 <| sd (does_build bt_36 rfl rfl) <| sy hg7 <| sd (does_eql_span rfl rfl) <| sz 3 rfl rfl rfl) <| sa rfl rfl rfl <| sr 1 rfl <| sg 3 11 38 41 true rfl rfl (fun hg12 => sy hg12 <| sr 1 rfl <| sy hg12 <| sL sl_89 rfl <| sy hg12 <| sr 1 rfl <| sz 3 rfl rfl rfl) <| sa rfl rfl rfl <| sr 1 rfl <| sE ?_;clear H a;intro a H
    refine k24 _ ?_;clear k24 K24
    refine wp_ret ?_
    refine ret1 (fn := Try.f8) rfl H rfl ?_
    exact ⟨rfl, (S.sel [] rfl rfl)⟩
   ·skip
    refine list_alloc H rfl S ze_36 ?_;clear H a S;intro b3 _ a hb3 hbw3 S H
    refine wpList_nil (And.intro (Or.inr (S.sel [3] rfl rfl)) ?_)
    refine wt_eff rfl ?_
    refine list_call H rfl rfl Try.func24 rfl rfl (drv_Distance true 1000 20 2000 20000 exBr A4 2 60 0 500 0 _ (ownM.inS S (i := 1) rfl) (by decide)) ?_;clear H a
    rintro _ _ a ⟨tl, th, rfl, S2⟩ H
    replace S := S.call S2;clear S2
    rw [ex_dist] at H
    refine wpList_nil (And.intro (Or.inr (S.sel [3] rfl rfl)) ?_)
    refine wt_does H rfl rfl (fun _ S => does_move rfl) ?_;clear H a;intro a H
    refine wt_does H rfl rfl (fun _ S => does_extract rfl rfl) ?_;clear H a;intro a H
    refine wt_does H rfl rfl (fun _ S => does_extract rfl rfl) ?_;clear H a;intro a H
    refine wt_does H rfl rfl (fun _ S => does_extract rfl rfl) ?_;clear H a;intro a H
    refine wt_eff rfl ?_
    refine list_store H S (i := 2) rfl rfl rfl rfl sz_36 rfl rfl ?_
    clear H a S;intro _ a S H
    refine wpList_nil (And.intro (Or.inr (S.sel [3] rfl rfl)) ?_)
    refine wt_eff rfl ?_
    refine list_store H S (i := 0) rfl rfl rfl rfl sz_36 rfl rfl ?_
    clear H a S;intro _ a S H
    refine wpList_nil (And.intro (Or.inr (S.sel [3] rfl rfl)) ?_)
    refine wt_does H rfl rfl (fun _ S => does_assign rfl) ?_;clear H a;intro a H
    refine wt_nil ?_
    refine k3 _ _ ?_
    clear k3 K3
    replace H := H.keep [2, 4] rfl
    refine seq_list fun K25 k25 => ?_
    refine list_call H rfl rfl Try.func26 rfl rfl (claw_Example _) ?_;clear H a
    rintro _ _ a ⟨SA, B0, B1, B2, B3, B4, QA, TA, rfl, S2⟩ H
    replace S := S.call S2;clear S2
    refine ls 3 H <| sr 3 rfl <| sE ?_;clear H a;intro a H
    refine list_alloc H rfl S ze_85 ?_;clear H a S;intro b5 _ a hb5 hbw5 S H
    refine list_store H S (i := 0) rfl rfl rfl rfl sz_85 rfl rfl ?_
    clear H a S;intro _ a S H
    refine ls 1 H <| sr 1 rfl <| sE ?_;clear H a;intro a H
    refine k25 _ _ ?_;clear k25 K25
    replace H := H.keep [2, 4, 5] rfl
    refine seq_list fun K26 k26 => ?_
    refine ls 1 H <| sd ((does_loadBox agg_85 sz_85 rfl S (i := 0) rfl rfl)) <| sE ?_;clear H a;intro a H
    refine list_call H rfl rfl Try.func27 rfl rfl (cir_Pairs 2 exSw SA 4 exWs QA 5 (exOA B0 B1 B2 B3 B4) exOc _ (ownM.inS S (i := 1) rfl) (ownM.inS S (i := 7) rfl) (fun k hk => by
      rcases k with _ | _ | _ | _ | _ | k
      · exact ownM.inS S (i := 2) rfl
      · exact ownM.inS S (i := 3) rfl
      · exact ownM.inS S (i := 4) rfl
      · exact ownM.inS S (i := 5) rfl
      · exact ownM.inS S (i := 6) rfl
      · exact absurd hk (by simp [exWs])
    ) exCir) ?_;clear H a
    rintro _ _ a ⟨A6, c6, rfl, S2⟩ H
    replace S := S.call S2;clear S2
    rw [exPairs] at H
    refine ls 5 H <| sr 5 rfl <| sE ?_;clear H a;intro a H
    refine k26 _ _ ?_;clear k26 K26
    replace H := H.keep [2, 4, 7, 8] rfl
    refine sS H fun K27 k27=>sr 3 rfl <| sg 2 2 29 31 true rfl rfl (fun hg3 => sy hg3 <| sr 1 rfl <| sy hg3 <| sr 1 rfl <| sz 2 rfl rfl rfl) <| sa rfl rfl rfl <| sr 1 rfl <| sg 3 6 33 36 true rfl rfl (fun hg7 => sy hg7 <| sd ((does_loadBox agg_36 sz_36 rfl S (i := 10) rfl rfl)) <| sy hg7 <| sd (does_build bt_36 rfl rfl) <| sy hg7 <| sd (does_eql_span rfl rfl) <| sz 3 rfl rfl rfl) <| sa rfl rfl rfl <| sr 1 rfl <| sg 3 11 38 41 true rfl rfl (fun hg12 => sy hg12 <| sr 1 rfl <| sy hg12 <| sL sl_89 rfl <| sy hg12 <| sr 1 rfl <| sz 3 rfl rfl rfl) <| sa rfl rfl rfl <| sr 1 rfl <| sE ?_;clear H a;intro a H
    refine k27 _ ?_;clear k27 K27
    refine wp_ret ?_
    refine ret1 (fn := Try.f8) rfl H rfl ?_
    exact ⟨rfl, (S.sel [] rfl rfl)⟩
  ·skip
   refine list_alloc H rfl S ze_36 ?_;clear H a S;intro b3 _ a hb3 hbw3 S H
   refine wpList_nil (And.intro (Or.inr (S.sel [2] rfl rfl)) ?_)
   refine wt_eff rfl ?_
   refine list_call H rfl rfl Try.func25 rfl rfl (dlaw_Example _) ?_;clear H a
   rintro _ _ a ⟨A4, rfl, S2⟩ H
   replace S := S.call S2;clear S2
   refine wpList_nil (And.intro (Or.inr (S.sel [3] rfl rfl)) ?_)
   refine wt_eff rfl ?_
   refine list_call H rfl rfl Try.func24 rfl rfl (drv_Distance true 1000 20 2000 20000 exBr A4 2 60 0 500 0 _ (ownM.inS S (i := 0) rfl) (by decide)) ?_;clear H a
   rintro _ _ a ⟨tl, th, rfl, S2⟩ H
   replace S := S.call S2;clear S2
   rw [ex_dist] at H
   refine wpList_nil (And.intro (Or.inr (S.sel [3] rfl rfl)) ?_)
   refine wt_does H rfl rfl (fun _ S => does_move rfl) ?_;clear H a;intro a H
   refine wt_does H rfl rfl (fun _ S => does_extract rfl rfl) ?_;clear H a;intro a H
   refine wt_does H rfl rfl (fun _ S => does_extract rfl rfl) ?_;clear H a;intro a H
   refine wt_does H rfl rfl (fun _ S => does_extract rfl rfl) ?_;clear H a;intro a H
   refine wt_eff rfl ?_
   refine list_store H S (i := 2) rfl rfl rfl rfl sz_36 rfl rfl ?_
   clear H a S;intro _ a S H
   refine wpList_nil (And.intro (Or.inr (S.sel [3] rfl rfl)) ?_)
   refine wt_eff rfl ?_
   refine list_store H S (i := 1) rfl rfl rfl rfl sz_36 rfl rfl ?_
   clear H a S;intro _ a S H
   refine wpList_nil (And.intro (Or.inr (S.sel [3] rfl rfl)) ?_)
   refine wt_does H rfl rfl (fun _ S => does_assign rfl) ?_;clear H a;intro a H
   refine wt_nil ?_
   refine k3 _ _ ?_
   clear k3 K3
   replace H := H.keep [2, 4] rfl
   refine seq_list fun K28 k28 => ?_
   refine list_call H rfl rfl Try.func26 rfl rfl (claw_Example _) ?_;clear H a
   rintro _ _ a ⟨SA, B0, B1, B2, B3, B4, QA, TA, rfl, S2⟩ H
   replace S := S.call S2;clear S2
   refine ls 3 H <| sr 3 rfl <| sE ?_;clear H a;intro a H
   refine list_alloc H rfl S ze_85 ?_;clear H a S;intro b5 _ a hb5 hbw5 S H
   refine list_store H S (i := 0) rfl rfl rfl rfl sz_85 rfl rfl ?_
   clear H a S;intro _ a S H
   refine ls 1 H <| sr 1 rfl <| sE ?_;clear H a;intro a H
   refine k28 _ _ ?_;clear k28 K28
   replace H := H.keep [2, 4, 5] rfl
   refine seq_list fun K29 k29 => ?_
   refine ls 1 H <| sd ((does_loadBox agg_85 sz_85 rfl S (i := 0) rfl rfl)) <| sE ?_;clear H a;intro a H
   refine list_call H rfl rfl Try.func27 rfl rfl (cir_Pairs 2 exSw SA 4 exWs QA 5 (exOA B0 B1 B2 B3 B4) exOc _ (ownM.inS S (i := 1) rfl) (ownM.inS S (i := 7) rfl) (fun k hk => by
     rcases k with _ | _ | _ | _ | _ | k
     · exact ownM.inS S (i := 2) rfl
     · exact ownM.inS S (i := 3) rfl
     · exact ownM.inS S (i := 4) rfl
     · exact ownM.inS S (i := 5) rfl
     · exact ownM.inS S (i := 6) rfl
     · exact absurd hk (by simp [exWs])
   ) exCir) ?_;clear H a
   rintro _ _ a ⟨A6, c6, rfl, S2⟩ H
   replace S := S.call S2;clear S2
   rw [exPairs] at H
   refine ls 5 H <| sr 5 rfl <| sE ?_;clear H a;intro a H
   refine k29 _ _ ?_;clear k29 K29
   replace H := H.keep [2, 4, 7, 8] rfl
   refine sS H fun K30 k30=>sr 3 rfl <| sg 2 2 29 31 true rfl rfl (fun hg3 => sy hg3 <| sr 1 rfl <| sy hg3 <| sr 1 rfl <| sz 2 rfl rfl rfl) <| sa rfl rfl rfl <| sr 1 rfl <| sg 3 6 33 36 true rfl rfl (fun hg7 => sy hg7 <| sd ((does_loadBox agg_36 sz_36 rfl S (i := 10) rfl rfl)) <| sy hg7 <| sd (does_build bt_36 rfl rfl) <| sy hg7 <| sd (does_eql_span rfl rfl) <| sz 3 rfl rfl rfl) <| sa rfl rfl rfl <| sr 1 rfl <| sg 3 11 38 41 true rfl rfl (fun hg12 => sy hg12 <| sr 1 rfl <| sy hg12 <| sL sl_89 rfl <| sy hg12 <| sr 1 rfl <| sz 3 rfl rfl rfl) <| sa rfl rfl rfl <| sr 1 rfl <| sE ?_;clear H a;intro a H
   refine k30 _ ?_;clear k30 K30
   refine wp_ret ?_
   refine ret1 (fn := Try.f8) rfl H rfl ?_
   exact ⟨rfl, (S.sel [] rfl rfl)⟩
 ·skip
  refine list_alloc H rfl S ze_36 ?_;clear H a S;intro b3 _ a hb3 hbw3 S H
  refine wpList_nil (And.intro (Or.inr (S.sel [1] rfl rfl)) ?_)
  refine wt_b2 rfl rfl ?_ ?_
  ·skip
   refine list_call H rfl rfl Try.func25 rfl rfl (dlaw_Example _) ?_;clear H a
   rintro _ _ a ⟨A4, rfl, S2⟩ H
   replace S := S.call S2;clear S2
   refine wpList_nil (And.intro (Or.inr (S.sel [2] rfl rfl)) ?_)
   refine wt_b2 rfl rfl ?_ ?_
   ·skip
    refine list_call H rfl rfl Try.func24 rfl rfl (drv_Distance true 1000 20 2000 20000 exBr A4 2 60 0 500 0 _ (ownM.inS S (i := 0) rfl) (by decide)) ?_;clear H a
    rintro _ _ a ⟨tl, th, rfl, S2⟩ H
    replace S := S.call S2;clear S2
    rw [ex_dist] at H
    refine wpList_nil (And.intro (Or.inr (S.sel [2] rfl rfl)) ?_)
    refine wt_does H rfl rfl (fun _ S => does_move rfl) ?_;clear H a;intro a H
    refine wt_does H rfl rfl (fun _ S => does_extract rfl rfl) ?_;clear H a;intro a H
    refine wt_does H rfl rfl (fun _ S => does_extract rfl rfl) ?_;clear H a;intro a H
    refine wt_does H rfl rfl (fun _ S => does_extract rfl rfl) ?_;clear H a;intro a H
    refine wt_eff rfl ?_
    refine list_alloc H rfl S ze_36 ?_;clear H a S;intro b2 _ a hb2 hbw2 S H
    refine wpList_nil (And.intro (Or.inr (S.sel [3] rfl rfl)) ?_)
    refine wt_eff rfl ?_
    refine list_store H S (i := 0) rfl rfl rfl rfl sz_36 rfl rfl ?_
    clear H a S;intro _ a S H
    refine wpList_nil (And.intro (Or.inr (S.sel [3] rfl rfl)) ?_)
    refine wt_eff rfl ?_
    refine list_store H S (i := 2) rfl rfl rfl rfl sz_36 rfl rfl ?_
    clear H a S;intro _ a S H
    refine wpList_nil (And.intro (Or.inr (S.sel [3] rfl rfl)) ?_)
    refine wt_does H rfl rfl (fun _ S => does_assign rfl) ?_;clear H a;intro a H
    refine wt_nil ?_
    refine k3 _ _ ?_
    clear k3 K3
    replace H := H.keep [2, 4] rfl
    refine seq_list fun K31 k31 => ?_
    refine list_call H rfl rfl Try.func26 rfl rfl (claw_Example _) ?_;clear H a
    rintro _ _ a ⟨SA, B0, B1, B2, B3, B4, QA, TA, rfl, S2⟩ H
    replace S := S.call S2;clear S2
    refine ls 3 H <| sr 3 rfl <| sE ?_;clear H a;intro a H
    refine list_alloc H rfl S ze_85 ?_;clear H a S;intro b5 _ a hb5 hbw5 S H
    refine list_store H S (i := 0) rfl rfl rfl rfl sz_85 rfl rfl ?_
    clear H a S;intro _ a S H
    refine ls 1 H <| sr 1 rfl <| sE ?_;clear H a;intro a H
    refine k31 _ _ ?_;clear k31 K31
    replace H := H.keep [2, 4, 5] rfl
    refine seq_list fun K32 k32 => ?_
    refine ls 1 H <| sd ((does_loadBox agg_85 sz_85 rfl S (i := 0) rfl rfl)) <| sE ?_;clear H a;intro a H
    refine list_call H rfl rfl Try.func27 rfl rfl (cir_Pairs 2 exSw SA 4 exWs QA 5 (exOA B0 B1 B2 B3 B4) exOc _ (ownM.inS S (i := 1) rfl) (ownM.inS S (i := 7) rfl) (fun k hk => by
      rcases k with _ | _ | _ | _ | _ | k
      · exact ownM.inS S (i := 2) rfl
      · exact ownM.inS S (i := 3) rfl
      · exact ownM.inS S (i := 4) rfl
      · exact ownM.inS S (i := 5) rfl
      · exact ownM.inS S (i := 6) rfl
      · exact absurd hk (by simp [exWs])
    ) exCir) ?_;clear H a
    rintro _ _ a ⟨A6, c6, rfl, S2⟩ H
    replace S := S.call S2;clear S2
    rw [exPairs] at H
    refine ls 5 H <| sr 5 rfl <| sE ?_;clear H a;intro a H
    refine k32 _ _ ?_;clear k32 K32
    replace H := H.keep [2, 4, 7, 8] rfl
    refine sS H fun K33 k33=>sr 3 rfl <| sg 2 2 29 31 true rfl rfl (fun hg3 => sy hg3 <| sr 1 rfl <| sy hg3 <| sr 1 rfl <| sz 2 rfl rfl rfl) <| sa rfl rfl rfl <| sr 1 rfl <| sg 3 6 33 36 true rfl rfl (fun hg7 => sy hg7 <| sd ((does_loadBox agg_36 sz_36 rfl S (i := 8) rfl rfl)) <| sy hg7 <| sd (does_build bt_36 rfl rfl) <| sy hg7 <| sd (does_eql_span rfl rfl) <| sz 3 rfl rfl rfl) <| sa rfl rfl rfl <| sr 1 rfl <| sg 3 11 38 41 true rfl rfl (fun hg12 => sy hg12 <| sr 1 rfl <| sy hg12 <| sL sl_89 rfl <| sy hg12 <| sr 1 rfl <| sz 3 rfl rfl rfl) <| sa rfl rfl rfl <| sr 1 rfl <| sE ?_;clear H a;intro a H
    refine k33 _ ?_;clear k33 K33
    refine wp_ret ?_
    refine ret1 (fn := Try.f8) rfl H rfl ?_
    exact ⟨rfl, (S.sel [] rfl rfl)⟩
   ·skip
    refine list_alloc H rfl S ze_36 ?_;clear H a S;intro b2 _ a hb2 hbw2 S H
    refine wpList_nil (And.intro (Or.inr (S.sel [3] rfl rfl)) ?_)
    refine wt_eff rfl ?_
    refine list_call H rfl rfl Try.func24 rfl rfl (drv_Distance true 1000 20 2000 20000 exBr A4 2 60 0 500 0 _ (ownM.inS S (i := 1) rfl) (by decide)) ?_;clear H a
    rintro _ _ a ⟨tl, th, rfl, S2⟩ H
    replace S := S.call S2;clear S2
    rw [ex_dist] at H
    refine wpList_nil (And.intro (Or.inr (S.sel [3] rfl rfl)) ?_)
    refine wt_does H rfl rfl (fun _ S => does_move rfl) ?_;clear H a;intro a H
    refine wt_does H rfl rfl (fun _ S => does_extract rfl rfl) ?_;clear H a;intro a H
    refine wt_does H rfl rfl (fun _ S => does_extract rfl rfl) ?_;clear H a;intro a H
    refine wt_does H rfl rfl (fun _ S => does_extract rfl rfl) ?_;clear H a;intro a H
    refine wt_eff rfl ?_
    refine list_store H S (i := 0) rfl rfl rfl rfl sz_36 rfl rfl ?_
    clear H a S;intro _ a S H
    refine wpList_nil (And.intro (Or.inr (S.sel [3] rfl rfl)) ?_)
    refine wt_eff rfl ?_
    refine list_store H S (i := 2) rfl rfl rfl rfl sz_36 rfl rfl ?_
    clear H a S;intro _ a S H
    refine wpList_nil (And.intro (Or.inr (S.sel [3] rfl rfl)) ?_)
    refine wt_does H rfl rfl (fun _ S => does_assign rfl) ?_;clear H a;intro a H
    refine wt_nil ?_
    refine k3 _ _ ?_
    clear k3 K3
    replace H := H.keep [2, 4] rfl
    refine seq_list fun K34 k34 => ?_
    refine list_call H rfl rfl Try.func26 rfl rfl (claw_Example _) ?_;clear H a
    rintro _ _ a ⟨SA, B0, B1, B2, B3, B4, QA, TA, rfl, S2⟩ H
    replace S := S.call S2;clear S2
    refine ls 3 H <| sr 3 rfl <| sE ?_;clear H a;intro a H
    refine list_alloc H rfl S ze_85 ?_;clear H a S;intro b5 _ a hb5 hbw5 S H
    refine list_store H S (i := 0) rfl rfl rfl rfl sz_85 rfl rfl ?_
    clear H a S;intro _ a S H
    refine ls 1 H <| sr 1 rfl <| sE ?_;clear H a;intro a H
    refine k34 _ _ ?_;clear k34 K34
    replace H := H.keep [2, 4, 5] rfl
    refine seq_list fun K35 k35 => ?_
    refine ls 1 H <| sd ((does_loadBox agg_85 sz_85 rfl S (i := 0) rfl rfl)) <| sE ?_;clear H a;intro a H
    refine list_call H rfl rfl Try.func27 rfl rfl (cir_Pairs 2 exSw SA 4 exWs QA 5 (exOA B0 B1 B2 B3 B4) exOc _ (ownM.inS S (i := 1) rfl) (ownM.inS S (i := 7) rfl) (fun k hk => by
      rcases k with _ | _ | _ | _ | _ | k
      · exact ownM.inS S (i := 2) rfl
      · exact ownM.inS S (i := 3) rfl
      · exact ownM.inS S (i := 4) rfl
      · exact ownM.inS S (i := 5) rfl
      · exact ownM.inS S (i := 6) rfl
      · exact absurd hk (by simp [exWs])
    ) exCir) ?_;clear H a
    rintro _ _ a ⟨A6, c6, rfl, S2⟩ H
    replace S := S.call S2;clear S2
    rw [exPairs] at H
    refine ls 5 H <| sr 5 rfl <| sE ?_;clear H a;intro a H
    refine k35 _ _ ?_;clear k35 K35
    replace H := H.keep [2, 4, 7, 8] rfl
    refine sS H fun K36 k36=>sr 3 rfl <| sg 2 2 29 31 true rfl rfl (fun hg3 => sy hg3 <| sr 1 rfl <| sy hg3 <| sr 1 rfl <| sz 2 rfl rfl rfl) <| sa rfl rfl rfl <| sr 1 rfl <| sg 3 6 33 36 true rfl rfl (fun hg7 => sy hg7 <| sd ((does_loadBox agg_36 sz_36 rfl S (i := 8) rfl rfl)) <| sy hg7 <| sd (does_build bt_36 rfl rfl) <| sy hg7 <| sd (does_eql_span rfl rfl) <| sz 3 rfl rfl rfl) <| sa rfl rfl rfl <| sr 1 rfl <| sg 3 11 38 41 true rfl rfl (fun hg12 => sy hg12 <| sr 1 rfl <| sy hg12 <| sL sl_89 rfl <| sy hg12 <| sr 1 rfl <| sz 3 rfl rfl rfl) <| sa rfl rfl rfl <| sr 1 rfl <| sE ?_;clear H a;intro a H
    refine k36 _ ?_;clear k36 K36
    refine wp_ret ?_
    refine ret1 (fn := Try.f8) rfl H rfl ?_
    exact ⟨rfl, (S.sel [] rfl rfl)⟩
  ·skip
   refine list_alloc H rfl S ze_36 ?_;clear H a S;intro b2 _ a hb2 hbw2 S H
   refine wpList_nil (And.intro (Or.inr (S.sel [2] rfl rfl)) ?_)
   refine wt_eff rfl ?_
   refine list_call H rfl rfl Try.func25 rfl rfl (dlaw_Example _) ?_;clear H a
   rintro _ _ a ⟨A4, rfl, S2⟩ H
   replace S := S.call S2;clear S2
   refine wpList_nil (And.intro (Or.inr (S.sel [3] rfl rfl)) ?_)
   refine wt_eff rfl ?_
   refine list_call H rfl rfl Try.func24 rfl rfl (drv_Distance true 1000 20 2000 20000 exBr A4 2 60 0 500 0 _ (ownM.inS S (i := 0) rfl) (by decide)) ?_;clear H a
   rintro _ _ a ⟨tl, th, rfl, S2⟩ H
   replace S := S.call S2;clear S2
   rw [ex_dist] at H
   refine wpList_nil (And.intro (Or.inr (S.sel [3] rfl rfl)) ?_)
   refine wt_does H rfl rfl (fun _ S => does_move rfl) ?_;clear H a;intro a H
   refine wt_does H rfl rfl (fun _ S => does_extract rfl rfl) ?_;clear H a;intro a H
   refine wt_does H rfl rfl (fun _ S => does_extract rfl rfl) ?_;clear H a;intro a H
   refine wt_does H rfl rfl (fun _ S => does_extract rfl rfl) ?_;clear H a;intro a H
   refine wt_eff rfl ?_
   refine list_store H S (i := 1) rfl rfl rfl rfl sz_36 rfl rfl ?_
   clear H a S;intro _ a S H
   refine wpList_nil (And.intro (Or.inr (S.sel [3] rfl rfl)) ?_)
   refine wt_eff rfl ?_
   refine list_store H S (i := 2) rfl rfl rfl rfl sz_36 rfl rfl ?_
   clear H a S;intro _ a S H
   refine wpList_nil (And.intro (Or.inr (S.sel [3] rfl rfl)) ?_)
   refine wt_does H rfl rfl (fun _ S => does_assign rfl) ?_;clear H a;intro a H
   refine wt_nil ?_
   refine k3 _ _ ?_
   clear k3 K3
   replace H := H.keep [2, 4] rfl
   refine seq_list fun K37 k37 => ?_
   refine list_call H rfl rfl Try.func26 rfl rfl (claw_Example _) ?_;clear H a
   rintro _ _ a ⟨SA, B0, B1, B2, B3, B4, QA, TA, rfl, S2⟩ H
   replace S := S.call S2;clear S2
   refine ls 3 H <| sr 3 rfl <| sE ?_;clear H a;intro a H
   refine list_alloc H rfl S ze_85 ?_;clear H a S;intro b5 _ a hb5 hbw5 S H
   refine list_store H S (i := 0) rfl rfl rfl rfl sz_85 rfl rfl ?_
   clear H a S;intro _ a S H
   refine ls 1 H <| sr 1 rfl <| sE ?_;clear H a;intro a H
   refine k37 _ _ ?_;clear k37 K37
   replace H := H.keep [2, 4, 5] rfl
   refine seq_list fun K38 k38 => ?_
   refine ls 1 H <| sd ((does_loadBox agg_85 sz_85 rfl S (i := 0) rfl rfl)) <| sE ?_;clear H a;intro a H
   refine list_call H rfl rfl Try.func27 rfl rfl (cir_Pairs 2 exSw SA 4 exWs QA 5 (exOA B0 B1 B2 B3 B4) exOc _ (ownM.inS S (i := 1) rfl) (ownM.inS S (i := 7) rfl) (fun k hk => by
     rcases k with _ | _ | _ | _ | _ | k
     · exact ownM.inS S (i := 2) rfl
     · exact ownM.inS S (i := 3) rfl
     · exact ownM.inS S (i := 4) rfl
     · exact ownM.inS S (i := 5) rfl
     · exact ownM.inS S (i := 6) rfl
     · exact absurd hk (by simp [exWs])
   ) exCir) ?_;clear H a
   rintro _ _ a ⟨A6, c6, rfl, S2⟩ H
   replace S := S.call S2;clear S2
   rw [exPairs] at H
   refine ls 5 H <| sr 5 rfl <| sE ?_;clear H a;intro a H
   refine k38 _ _ ?_;clear k38 K38
   replace H := H.keep [2, 4, 7, 8] rfl
   refine sS H fun K39 k39=>sr 3 rfl <| sg 2 2 29 31 true rfl rfl (fun hg3 => sy hg3 <| sr 1 rfl <| sy hg3 <| sr 1 rfl <| sz 2 rfl rfl rfl) <| sa rfl rfl rfl <| sr 1 rfl <| sg 3 6 33 36 true rfl rfl (fun hg7 => sy hg7 <| sd ((does_loadBox agg_36 sz_36 rfl S (i := 9) rfl rfl)) <| sy hg7 <| sd (does_build bt_36 rfl rfl) <| sy hg7 <| sd (does_eql_span rfl rfl) <| sz 3 rfl rfl rfl) <| sa rfl rfl rfl <| sr 1 rfl <| sg 3 11 38 41 true rfl rfl (fun hg12 => sy hg12 <| sr 1 rfl <| sy hg12 <| sL sl_89 rfl <| sy hg12 <| sr 1 rfl <| sz 3 rfl rfl rfl) <| sa rfl rfl rfl <| sr 1 rfl <| sE ?_;clear H a;intro a H
   refine k39 _ ?_;clear k39 K39
   refine wp_ret ?_
   refine ret1 (fn := Try.f8) rfl H rfl ?_
   exact ⟨rfl, (S.sel [] rfl rfl)⟩

end Go.Proofs.Ytdepakimbagonaa
