/- DrB. Printed by gen.py. -/
import Derived.Test.YtdepakimbagonaaTpA
import Derived.Test.YtdepakimbagonaaDrv
import Derived.Test.YtdepakimbagonaaE1
import Derived.Test.YtdepakimbagonaaE2
namespace Go.Proofs.Ytdepakimbagonaa
open Go.RowKit
set_option linter.unusedVariables false
set_option linter.unusedSimpArgs false
set_option maxRecDepth 100000
set_option maxHeartbeats 4000000


theorem drv_in (n lo hi : Int) (w : World) :
    Calls Try.prog 67 [.int .i64 n, .agg [.int .i64 lo, .int .i64 hi].toArray].toArray w (Ret (fun v w' => v = .bool (decide (lo ≤ n) && decide (n ≤ hi)) ∧ St w noF [] w')) := by
 refine enter Try.func67 rfl Try.ntmps67 rfl (fun a H => ?_)
 have S := St.start w
 refine seq_list fun K1 k1 => ?_
 refine list_box H rfl S rfl rfl ?_;clear H a S;intro b3 _ a hb3 hbw3 S H
 refine ls 1 H <| sr 1 rfl <| sE ?_;clear H a;intro a H
 refine k1 _ _ ?_;clear k1 K1
 replace H := H.keep [0, 3] rfl
 refine sS H fun K2 k2=>sf fo_36_0 rfl <| sl S 0 one_3 rfl rfl rfl <| sr 3 rfl <| sg 4 4 9 13 true rfl rfl (fun hg5 => sy hg5 <| sr 1 rfl <| sy hg5 <| sf fo_36_1 rfl <| sy hg5 <| sl S 0 one_3 rfl rfl rfl <| sy hg5 <| sr 1 rfl <| sz 4 rfl rfl rfl) <| sa rfl rfl rfl <| sr 1 rfl <| sE ?_;clear H a;intro a H
 refine k2 _ ?_;clear k2 K2
 refine wp_ret ?_
 refine ret1 (fn := Try.f67) rfl H rfl ?_
 exact ⟨rfl, (S.sel [] rfl rfl)⟩

theorem drv_to (hi : Int) (w : World) :
    Calls Try.prog 68 [.int .i64 hi].toArray w (Ret (fun v w' => v = .agg [.int .i64 0, .int .i64 hi].toArray ∧ St w noF [] w')) := by
 refine enter Try.func68 rfl Try.ntmps68 rfl (fun a H => ?_)
 have S := St.start w
 refine seq_list fun K1 k1 => ?_
 refine list_alloc H rfl S ze_36 ?_;clear H a S;intro b2 _ a hb2 hbw2 S H
 refine k1 _ _ ?_;clear k1 K1
 refine seq_list fun K2 k2 => ?_
 refine ls 2 H <| sr 1 rfl <| sd (does_build bt_36 rfl rfl) <| sE ?_;clear H a;intro a H
 refine list_store H S (i := 0) rfl rfl rfl rfl sz_36 rfl rfl ?_
 clear H a S;intro _ a S H
 refine k2 _ _ ?_;clear k2 K2
 refine wp_ret ?_
 refine retA (fn := Try.f68) rfl H rfl agg_36 (by exact sz_36) (boxAgg S (i := 0) rfl) ?_
 exact ⟨rfl, (S.sel [] rfl rfl)⟩

theorem drv_in_yes {n lo hi : Int} {w : World} (h : lo ≤ n ∧ n ≤ hi) : Calls Try.prog 67 [.int .i64 n, .agg [.int .i64 lo, .int .i64 hi].toArray].toArray w (Ret fun v w' => v = .bool true ∧ St w noF [] w') :=
  ret_imp (drv_in n lo hi w) fun v w' h' => ⟨h'.1.trans (congrArg Value.bool (by rw [decide_eq_true h.1, decide_eq_true h.2]; rfl)), h'.2⟩
theorem drv_in_no {n lo hi : Int} {w : World} (h : n < lo ∨ hi < n) : Calls Try.prog 67 [.int .i64 n, .agg [.int .i64 lo, .int .i64 hi].toArray].toArray w (Ret fun v w' => v = .bool false ∧ St w noF [] w') :=
  ret_imp (drv_in n lo hi w) fun v w' h' => ⟨h'.1.trans (congrArg Value.bool (by rw [Bool.and_eq_false_iff]; simp only [decide_eq_false_iff_not]; omega)), h'.2⟩


theorem drv_sound (b : Brake) (w : World) :
    Calls Try.prog 78 [.agg [.int .i64 b.force, .int .i64 b.delay].toArray].toArray w (Ret (fun v w' => v = .bool (brakeOk b) ∧ St w noF [] w')) := by
 refine enter Try.func78 rfl Try.ntmps78 rfl (fun a H => ?_)
 have S := St.start w
 refine seq_list fun K1 k1 => ?_
 refine list_box H rfl S rfl rfl ?_;clear H a S;intro b1 _ a hb1 hbw1 S H
 refine ls 1 H <| sr 1 rfl <| sE ?_;clear H a;intro a H
 refine k1 _ _ ?_;clear k1 K1
 by_cases hs : 0 ≤ b.force ∧ b.force ≤ 10000000
 ·skip
  replace H := H.keep [1] rfl
  replace S := S.drew
  refine seq_wq [(0, true), (1, true), (2, false), (3, false), (4, true), (5, true), (6, true), (7, false), (8, false), (9, true), (10, true)] (by kernel_rfl) (by kernel_rfl) (S.sel [0] rfl rfl) fun K2 k2 => ?_
  refine qF H <| qd rfl (fun _ S => (does_field fo_123_0 rfl)) <| qd rfl (fun _ S => does_load one_3 rfl (boxM.rd S (i := 0) rfl rfl)) <| qK ?_;clear H a;intro a H
  refine wq_eff rfl ?_
  refine list_call H rfl rfl Try.func68 rfl rfl (drv_to _ _) ?_;clear H a
  rintro _ _ a ⟨rfl, S2⟩ H
  replace S := S.call S2;clear S2
  refine wpList_nil (And.intro (S.sel [0] rfl rfl) ?_)
  refine wq_eff rfl ?_
  refine list_call H rfl rfl Try.func67 rfl rfl (drv_in_yes (by omega)) ?_;clear H a
  rintro _ _ a ⟨rfl, S2⟩ H
  replace S := S.call S2;clear S2
  refine wpList_nil (And.intro (S.sel [0] rfl rfl) ?_)
  refine qF H <| qr 1 rfl <| qK ?_;clear H a;intro a H
  refine wq_yes H rfl rfl rfl rfl (fun _ S => (does_field fo_123_1 rfl)) ?_;clear H a;intro a H
  refine wq_yes H rfl rfl rfl rfl (fun _ S => does_load one_3 rfl (boxM.rd S (i := 0) rfl rfl)) ?_;clear H a;intro a H
  refine wq_eff rfl ?_
  refine list_yes H rfl rfl ?_
  refine list_call H rfl rfl Try.func68 rfl rfl (drv_to _ _) ?_;clear H a
  rintro _ _ a ⟨rfl, S2⟩ H
  replace S := S.call S2;clear S2
  refine wpList_nil (And.intro (S.sel [0] rfl rfl) ?_)
  refine wq_eff rfl ?_
  refine list_yes H rfl rfl ?_
  refine list_call H rfl rfl Try.func67 rfl rfl (drv_in _ _ _ _) ?_;clear H a
  rintro _ _ a ⟨rfl, S2⟩ H
  replace S := S.call S2;clear S2
  refine wpList_nil (And.intro (S.sel [0] rfl rfl) ?_)
  refine qF H <| qd rfl (fun _ S => (does_and rfl rfl rfl)) <| qr 1 rfl <| qK ?_;clear H a;intro a H
  refine wq_nil ?_
  refine k2 _ _ ?_
  clear k2 K2
  refine wp_ret ?_
  refine ret1 (fn := Try.f78) rfl H rfl ?_
  refine ⟨congrArg Value.bool ?_, (S.sel [] rfl rfl)⟩
  unfold brakeOk
  first | (rw [Bool.eq_iff_iff]; simp only [Bool.and_eq_true, decide_eq_true_eq, true_and]; omega) | (symm; simp only [decide_eq_false_iff_not]; omega)
 replace H := H.keep [1] rfl
 replace S := S.drew
 refine seq_wq [(0, true), (1, true), (2, false), (3, false), (4, true), (5, true), (6, true), (7, true), (8, true), (9, true), (10, true)] (by kernel_rfl) (by kernel_rfl) (S.sel [0] rfl rfl) fun K3 k3 => ?_
 refine qF H <| qd rfl (fun _ S => (does_field fo_123_0 rfl)) <| qd rfl (fun _ S => does_load one_3 rfl (boxM.rd S (i := 0) rfl rfl)) <| qK ?_;clear H a;intro a H
 refine wq_eff rfl ?_
 refine list_call H rfl rfl Try.func68 rfl rfl (drv_to _ _) ?_;clear H a
 rintro _ _ a ⟨rfl, S2⟩ H
 replace S := S.call S2;clear S2
 refine wpList_nil (And.intro (S.sel [0] rfl rfl) ?_)
 refine wq_eff rfl ?_
 refine list_call H rfl rfl Try.func67 rfl rfl (drv_in_no (by omega)) ?_;clear H a
 rintro _ _ a ⟨rfl, S2⟩ H
 replace S := S.call S2;clear S2
 refine wpList_nil (And.intro (S.sel [0] rfl rfl) ?_)
 refine qF H <| qr 1 rfl <| qK ?_;clear H a;intro a H
 refine wq_no H rfl rfl rfl rfl rfl ?_;clear H a;intro a H
 refine wq_no H rfl rfl rfl rfl rfl ?_;clear H a;intro a H
 refine wq_no H rfl rfl rfl rfl rfl ?_;clear H a;intro a H
 refine wq_no H rfl rfl rfl rfl rfl ?_;clear H a;intro a H
 refine qF H <| qd rfl (fun _ S => (does_pick rfl rfl rfl)) <| qr 1 rfl <| qK ?_;clear H a;intro a H
 refine wq_nil ?_
 refine k3 _ _ ?_
 clear k3 K3
 refine wp_ret ?_
 refine ret1 (fn := Try.f78) rfl H rfl ?_
 refine ⟨congrArg Value.bool ?_, (S.sel [] rfl rfl)⟩
 unfold brakeOk
 first | (rw [Bool.eq_iff_iff]; simp only [Bool.and_eq_true, decide_eq_true_eq, true_and]; omega) | (symm; simp only [decide_eq_false_iff_not]; omega)

theorem drv_Check (up : Bool) (empty pull drag motor : Int) (br : List Brake) (BA : Option Addr) (bcp : Nat) (w : World) (hb : InS w noF 2 BA br.length (bcell br)) (hbn : br.length ≤ 9223372036854775807) :
    Calls Try.prog 66 [.agg [.bool up, .int .i64 empty, .int .i64 pull, .int .i64 drag, .int .i64 motor, .slice BA br.length bcp].toArray].toArray w (Ret (fun v w' => v = .int .i64 (if escOk (⟨up, empty, pull, drag, motor, br⟩ : Esc) = true then 0 else 10) ∧ St w noF [] w')) := by
 refine enter Try.func66 rfl Try.ntmps66 rfl (fun a H => ?_)
 have S := St.start w
 refine seq_list fun K1 k1 => ?_
 refine list_box H rfl S rfl rfl ?_;clear H a S;intro b1 _ a hb1 hbw1 S H
 refine ls 1 H <| sr 1 rfl <| sE ?_;clear H a;intro a H
 refine k1 _ _ ?_;clear k1 K1
 refine sS H fun K2 k2=>sr 1 rfl <| sE ?_;clear H a;intro a H
 refine k2 _ ?_;clear k2 K2
 refine wp_seq_k fun K3 k3 => ?_
 rcases (show (empty < 1 ∨ (1 ≤ empty ∧ 100000 < empty) ∨ (1 ≤ empty ∧ empty ≤ 100000 ∧ (pull < 0 ∨ 100 < pull))) ∨ ((1 ≤ empty ∧ empty ≤ 100000 ∧ 0 ≤ pull ∧ pull ≤ 100) ∧ ((drag < 0 ∨ 10000000 < drag) ∨ ((0 ≤ drag ∧ drag ≤ 10000000) ∧ (motor < 0 ∨ 10000000 < motor)) ∨ ((0 ≤ drag ∧ drag ≤ 10000000 ∧ 0 ≤ motor ∧ motor ≤ 10000000) ∧ 3 < (br.length : Int)) ∨ ((0 ≤ drag ∧ drag ≤ 10000000 ∧ 0 ≤ motor ∧ motor ≤ 10000000) ∧ (br.length : Int) ≤ 3))) by omega) with (hs | hs | hs) | ⟨hs0, hs | hs | hs | hs⟩
 ·skip
  skip
  replace H := H.keep [1, 3] rfl
  replace S := S.drew
  refine seq_wq [(0, true), (1, true), (2, true), (3, true), (4, true), (5, true), (6, true), (7, true), (8, true), (9, true), (10, true), (11, true), (12, true), (13, true), (14, true), (15, true), (16, true), (17, true), (18, true), (19, true), (20, true), (21, true), (22, true), (23, true), (24, true), (25, true), (26, true), (27, true), (28, true), (29, true), (30, true), (31, true), (32, true), (33, true), (34, true)] (by kernel_rfl) (by kernel_rfl) (S.sel [0] rfl rfl) fun K4 k4 => ?_
  refine qF H <| qd rfl (fun _ S => (does_field fo_81_1 rfl)) <| qd rfl (fun _ S => does_load one_3 rfl (boxM.rd S (i := 0) rfl rfl)) <| qd rfl (fun _ S => Does.to (does_lss rfl rfl) (congrArg Value.bool (decide_eq_true (by omega)))) <| qr 1 rfl <| qK ?_;clear H a;intro a H
  refine wq_no H rfl rfl rfl rfl rfl ?_;clear H a;intro a H
  refine wq_no H rfl rfl rfl rfl rfl ?_;clear H a;intro a H
  refine wq_no H rfl rfl rfl rfl rfl ?_;clear H a;intro a H
  refine qF H <| qd rfl (fun _ S => (does_pick rfl rfl rfl)) <| qr 1 rfl <| qK ?_;clear H a;intro a H
  refine wq_no H rfl rfl rfl rfl rfl ?_;clear H a;intro a H
  refine wq_no H rfl rfl rfl rfl rfl ?_;clear H a;intro a H
  refine wq_no H rfl rfl rfl rfl rfl ?_;clear H a;intro a H
  refine wq_no H rfl rfl rfl rfl rfl ?_;clear H a;intro a H
  refine wq_no H rfl rfl rfl rfl rfl ?_;clear H a;intro a H
  refine qF H <| qd rfl (fun _ S => (does_pick rfl rfl rfl)) <| qr 1 rfl <| qK ?_;clear H a;intro a H
  refine wq_no H rfl rfl rfl rfl rfl ?_;clear H a;intro a H
  refine wq_no H rfl rfl rfl rfl rfl ?_;clear H a;intro a H
  refine wq_no H rfl rfl rfl rfl rfl ?_;clear H a;intro a H
  refine wq_no H rfl rfl rfl rfl rfl ?_;clear H a;intro a H
  refine wq_no H rfl rfl rfl rfl rfl ?_;clear H a;intro a H
  refine qF H <| qd rfl (fun _ S => (does_pick rfl rfl rfl)) <| qr 1 rfl <| qK ?_;clear H a;intro a H
  refine wq_no H rfl rfl rfl rfl rfl ?_;clear H a;intro a H
  refine wq_no H rfl rfl rfl rfl rfl ?_;clear H a;intro a H
  refine wq_no H rfl rfl rfl rfl rfl ?_;clear H a;intro a H
  refine wq_no H rfl rfl rfl rfl rfl ?_;clear H a;intro a H
  refine wq_no H rfl rfl rfl rfl rfl ?_;clear H a;intro a H
  refine qF H <| qd rfl (fun _ S => (does_pick rfl rfl rfl)) <| qr 1 rfl <| qK ?_;clear H a;intro a H
  refine wq_no H rfl rfl rfl rfl rfl ?_;clear H a;intro a H
  refine wq_no H rfl rfl rfl rfl rfl ?_;clear H a;intro a H
  refine wq_no H rfl rfl rfl rfl rfl ?_;clear H a;intro a H
  refine wq_no H rfl rfl rfl rfl rfl ?_;clear H a;intro a H
  refine qF H <| qd rfl (fun _ S => (does_pick rfl rfl rfl)) <| qK ?_;clear H a;intro a H
  refine wq_nil ?_
  refine k4 _ _ ?_
  clear k4 K4
  refine cond_ H rfl (fun hc1 => ?_) (fun hc1 => ?_)
  ·skip
   skip
   replace H := H.keep [] rfl
   refine sS H fun K5 k5=>sr 1 rfl <| sE ?_;clear H a;intro a H
   refine k5 _ ?_;clear k5 K5
   refine wp_ret ?_
   refine ret1 (fn := Try.f66) rfl H rfl ?_
   refine ⟨?_, (S.sel [] rfl rfl)⟩; rw [if_neg (by unfold escOk; simp only [Bool.and_eq_true, decide_eq_true_eq]; rintro ⟨h1, _⟩; omega)]
  skip
  exact absurd hc1 (by decide)
 ·skip
  skip
  replace H := H.keep [1, 3] rfl
  replace S := S.drew
  refine seq_wq [(0, true), (1, true), (2, true), (3, true), (4, true), (5, true), (6, true), (7, true), (8, true), (9, true), (10, true), (11, true), (12, true), (13, true), (14, true), (15, true), (16, true), (17, true), (18, true), (19, true), (20, true), (21, true), (22, true), (23, true), (24, true), (25, true), (26, true), (27, true), (28, true), (29, true), (30, true), (31, true), (32, true), (33, true), (34, true)] (by kernel_rfl) (by kernel_rfl) (S.sel [0] rfl rfl) fun K6 k6 => ?_
  refine qF H <| qd rfl (fun _ S => (does_field fo_81_1 rfl)) <| qd rfl (fun _ S => does_load one_3 rfl (boxM.rd S (i := 0) rfl rfl)) <| qd rfl (fun _ S => Does.to (does_lss rfl rfl) (congrArg Value.bool (decide_eq_false (by omega)))) <| qr 1 rfl <| qK ?_;clear H a;intro a H
  refine wq_yes H rfl rfl rfl rfl (fun _ S => (does_field fo_81_1 rfl)) ?_;clear H a;intro a H
  refine wq_yes H rfl rfl rfl rfl (fun _ S => does_load one_3 rfl (boxM.rd S (i := 0) rfl rfl)) ?_;clear H a;intro a H
  refine wq_yes H rfl rfl rfl rfl (fun _ S => Does.to (does_gtr rfl rfl) (congrArg Value.bool (decide_eq_true (by omega)))) ?_;clear H a;intro a H
  refine qF H <| qd rfl (fun _ S => (does_or rfl rfl rfl)) <| qr 1 rfl <| qK ?_;clear H a;intro a H
  refine wq_no H rfl rfl rfl rfl rfl ?_;clear H a;intro a H
  refine wq_no H rfl rfl rfl rfl rfl ?_;clear H a;intro a H
  refine wq_no H rfl rfl rfl rfl rfl ?_;clear H a;intro a H
  refine wq_no H rfl rfl rfl rfl rfl ?_;clear H a;intro a H
  refine wq_no H rfl rfl rfl rfl rfl ?_;clear H a;intro a H
  refine qF H <| qd rfl (fun _ S => (does_pick rfl rfl rfl)) <| qr 1 rfl <| qK ?_;clear H a;intro a H
  refine wq_no H rfl rfl rfl rfl rfl ?_;clear H a;intro a H
  refine wq_no H rfl rfl rfl rfl rfl ?_;clear H a;intro a H
  refine wq_no H rfl rfl rfl rfl rfl ?_;clear H a;intro a H
  refine wq_no H rfl rfl rfl rfl rfl ?_;clear H a;intro a H
  refine wq_no H rfl rfl rfl rfl rfl ?_;clear H a;intro a H
  refine qF H <| qd rfl (fun _ S => (does_pick rfl rfl rfl)) <| qr 1 rfl <| qK ?_;clear H a;intro a H
  refine wq_no H rfl rfl rfl rfl rfl ?_;clear H a;intro a H
  refine wq_no H rfl rfl rfl rfl rfl ?_;clear H a;intro a H
  refine wq_no H rfl rfl rfl rfl rfl ?_;clear H a;intro a H
  refine wq_no H rfl rfl rfl rfl rfl ?_;clear H a;intro a H
  refine wq_no H rfl rfl rfl rfl rfl ?_;clear H a;intro a H
  refine qF H <| qd rfl (fun _ S => (does_pick rfl rfl rfl)) <| qr 1 rfl <| qK ?_;clear H a;intro a H
  refine wq_no H rfl rfl rfl rfl rfl ?_;clear H a;intro a H
  refine wq_no H rfl rfl rfl rfl rfl ?_;clear H a;intro a H
  refine wq_no H rfl rfl rfl rfl rfl ?_;clear H a;intro a H
  refine wq_no H rfl rfl rfl rfl rfl ?_;clear H a;intro a H
  refine qF H <| qd rfl (fun _ S => (does_pick rfl rfl rfl)) <| qK ?_;clear H a;intro a H
  refine wq_nil ?_
  refine k6 _ _ ?_
  clear k6 K6
  refine cond_ H rfl (fun hc2 => ?_) (fun hc2 => ?_)
  ·skip
   skip
   replace H := H.keep [] rfl
   refine sS H fun K7 k7=>sr 1 rfl <| sE ?_;clear H a;intro a H
   refine k7 _ ?_;clear k7 K7
   refine wp_ret ?_
   refine ret1 (fn := Try.f66) rfl H rfl ?_
   refine ⟨?_, (S.sel [] rfl rfl)⟩; rw [if_neg (by unfold escOk; simp only [Bool.and_eq_true, decide_eq_true_eq]; rintro ⟨h1, _⟩; omega)]
  skip
  exact absurd hc2 (by decide)
 ·skip
  skip
  replace H := H.keep [1, 3] rfl
  replace S := S.drew
  refine seq_wq [(0, true), (1, true), (2, true), (3, true), (4, true), (5, true), (6, true), (7, true), (8, true), (9, true), (10, true), (11, false), (12, false), (13, true), (14, true), (15, true), (16, true), (17, true), (18, true), (19, true), (20, true), (21, true), (22, true), (23, true), (24, true), (25, true), (26, true), (27, true), (28, true), (29, true), (30, true), (31, true), (32, true), (33, true), (34, true)] (by kernel_rfl) (by kernel_rfl) (S.sel [0] rfl rfl) fun K8 k8 => ?_
  refine qF H <| qd rfl (fun _ S => (does_field fo_81_1 rfl)) <| qd rfl (fun _ S => does_load one_3 rfl (boxM.rd S (i := 0) rfl rfl)) <| qd rfl (fun _ S => Does.to (does_lss rfl rfl) (congrArg Value.bool (decide_eq_false (by omega)))) <| qr 1 rfl <| qK ?_;clear H a;intro a H
  refine wq_yes H rfl rfl rfl rfl (fun _ S => (does_field fo_81_1 rfl)) ?_;clear H a;intro a H
  refine wq_yes H rfl rfl rfl rfl (fun _ S => does_load one_3 rfl (boxM.rd S (i := 0) rfl rfl)) ?_;clear H a;intro a H
  refine wq_yes H rfl rfl rfl rfl (fun _ S => Does.to (does_gtr rfl rfl) (congrArg Value.bool (decide_eq_false (by omega)))) ?_;clear H a;intro a H
  refine qF H <| qd rfl (fun _ S => (does_or rfl rfl rfl)) <| qr 1 rfl <| qK ?_;clear H a;intro a H
  refine wq_yes H rfl rfl rfl rfl (fun _ S => (does_field fo_81_2 rfl)) ?_;clear H a;intro a H
  refine wq_yes H rfl rfl rfl rfl (fun _ S => does_load one_3 rfl (boxM.rd S (i := 0) rfl rfl)) ?_;clear H a;intro a H
  refine wq_eff rfl ?_
  refine list_yes H rfl rfl ?_
  refine list_call H rfl rfl Try.func68 rfl rfl (drv_to _ _) ?_;clear H a
  rintro _ _ a ⟨rfl, S2⟩ H
  replace S := S.call S2;clear S2
  refine wpList_nil (And.intro (S.sel [0] rfl rfl) ?_)
  refine wq_eff rfl ?_
  refine list_yes H rfl rfl ?_
  refine list_call H rfl rfl Try.func67 rfl rfl (drv_in_no (by omega)) ?_;clear H a
  rintro _ _ a ⟨rfl, S2⟩ H
  replace S := S.call S2;clear S2
  refine wpList_nil (And.intro (S.sel [0] rfl rfl) ?_)
  refine wq_yes H rfl rfl rfl rfl (fun _ S => does_not rfl) ?_;clear H a;intro a H
  refine qF H <| qd rfl (fun _ S => (does_or rfl rfl rfl)) <| qr 1 rfl <| qK ?_;clear H a;intro a H
  refine wq_no H rfl rfl rfl rfl rfl ?_;clear H a;intro a H
  refine wq_no H rfl rfl rfl rfl rfl ?_;clear H a;intro a H
  refine wq_no H rfl rfl rfl rfl rfl ?_;clear H a;intro a H
  refine wq_no H rfl rfl rfl rfl rfl ?_;clear H a;intro a H
  refine wq_no H rfl rfl rfl rfl rfl ?_;clear H a;intro a H
  refine qF H <| qd rfl (fun _ S => (does_pick rfl rfl rfl)) <| qr 1 rfl <| qK ?_;clear H a;intro a H
  refine wq_no H rfl rfl rfl rfl rfl ?_;clear H a;intro a H
  refine wq_no H rfl rfl rfl rfl rfl ?_;clear H a;intro a H
  refine wq_no H rfl rfl rfl rfl rfl ?_;clear H a;intro a H
  refine wq_no H rfl rfl rfl rfl rfl ?_;clear H a;intro a H
  refine wq_no H rfl rfl rfl rfl rfl ?_;clear H a;intro a H
  refine qF H <| qd rfl (fun _ S => (does_pick rfl rfl rfl)) <| qr 1 rfl <| qK ?_;clear H a;intro a H
  refine wq_no H rfl rfl rfl rfl rfl ?_;clear H a;intro a H
  refine wq_no H rfl rfl rfl rfl rfl ?_;clear H a;intro a H
  refine wq_no H rfl rfl rfl rfl rfl ?_;clear H a;intro a H
  refine wq_no H rfl rfl rfl rfl rfl ?_;clear H a;intro a H
  refine qF H <| qd rfl (fun _ S => (does_pick rfl rfl rfl)) <| qK ?_;clear H a;intro a H
  refine wq_nil ?_
  refine k8 _ _ ?_
  clear k8 K8
  refine cond_ H rfl (fun hc3 => ?_) (fun hc3 => ?_)
  ·skip
   skip
   replace H := H.keep [] rfl
   refine sS H fun K9 k9=>sr 1 rfl <| sE ?_;clear H a;intro a H
   refine k9 _ ?_;clear k9 K9
   refine wp_ret ?_
   refine ret1 (fn := Try.f66) rfl H rfl ?_
   refine ⟨?_, (S.sel [] rfl rfl)⟩; rw [if_neg (by unfold escOk; simp only [Bool.and_eq_true, decide_eq_true_eq]; rintro ⟨h1, _⟩; omega)]
  skip
  exact absurd hc3 (by decide)
 ·skip
  skip
  replace H := H.keep [1, 3] rfl
  replace S := S.drew
  refine seq_wq [(0, true), (1, true), (2, true), (3, true), (4, true), (5, true), (6, true), (7, true), (8, true), (9, true), (10, true), (11, false), (12, false), (13, true), (14, true), (15, true), (16, true), (17, true), (18, false), (19, false), (20, true), (21, true), (22, true), (23, true), (24, true), (25, true), (26, true), (27, true), (28, true), (29, true), (30, true), (31, true), (32, true), (33, true), (34, true)] (by kernel_rfl) (by kernel_rfl) (S.sel [0] rfl rfl) fun K10 k10 => ?_
  refine qF H <| qd rfl (fun _ S => (does_field fo_81_1 rfl)) <| qd rfl (fun _ S => does_load one_3 rfl (boxM.rd S (i := 0) rfl rfl)) <| qd rfl (fun _ S => Does.to (does_lss rfl rfl) (congrArg Value.bool (decide_eq_false (by omega)))) <| qr 1 rfl <| qK ?_;clear H a;intro a H
  refine wq_yes H rfl rfl rfl rfl (fun _ S => (does_field fo_81_1 rfl)) ?_;clear H a;intro a H
  refine wq_yes H rfl rfl rfl rfl (fun _ S => does_load one_3 rfl (boxM.rd S (i := 0) rfl rfl)) ?_;clear H a;intro a H
  refine wq_yes H rfl rfl rfl rfl (fun _ S => Does.to (does_gtr rfl rfl) (congrArg Value.bool (decide_eq_false (by omega)))) ?_;clear H a;intro a H
  refine qF H <| qd rfl (fun _ S => (does_or rfl rfl rfl)) <| qr 1 rfl <| qK ?_;clear H a;intro a H
  refine wq_yes H rfl rfl rfl rfl (fun _ S => (does_field fo_81_2 rfl)) ?_;clear H a;intro a H
  refine wq_yes H rfl rfl rfl rfl (fun _ S => does_load one_3 rfl (boxM.rd S (i := 0) rfl rfl)) ?_;clear H a;intro a H
  refine wq_eff rfl ?_
  refine list_yes H rfl rfl ?_
  refine list_call H rfl rfl Try.func68 rfl rfl (drv_to _ _) ?_;clear H a
  rintro _ _ a ⟨rfl, S2⟩ H
  replace S := S.call S2;clear S2
  refine wpList_nil (And.intro (S.sel [0] rfl rfl) ?_)
  refine wq_eff rfl ?_
  refine list_yes H rfl rfl ?_
  refine list_call H rfl rfl Try.func67 rfl rfl (drv_in_yes (by omega)) ?_;clear H a
  rintro _ _ a ⟨rfl, S2⟩ H
  replace S := S.call S2;clear S2
  refine wpList_nil (And.intro (S.sel [0] rfl rfl) ?_)
  refine wq_yes H rfl rfl rfl rfl (fun _ S => does_not rfl) ?_;clear H a;intro a H
  refine qF H <| qd rfl (fun _ S => (does_or rfl rfl rfl)) <| qr 1 rfl <| qK ?_;clear H a;intro a H
  refine wq_yes H rfl rfl rfl rfl (fun _ S => (does_field fo_81_3 rfl)) ?_;clear H a;intro a H
  refine wq_yes H rfl rfl rfl rfl (fun _ S => does_load one_3 rfl (boxM.rd S (i := 0) rfl rfl)) ?_;clear H a;intro a H
  refine wq_eff rfl ?_
  refine list_yes H rfl rfl ?_
  refine list_call H rfl rfl Try.func68 rfl rfl (drv_to _ _) ?_;clear H a
  rintro _ _ a ⟨rfl, S2⟩ H
  replace S := S.call S2;clear S2
  refine wpList_nil (And.intro (S.sel [0] rfl rfl) ?_)
  refine wq_eff rfl ?_
  refine list_yes H rfl rfl ?_
  refine list_call H rfl rfl Try.func67 rfl rfl (drv_in_no (by omega)) ?_;clear H a
  rintro _ _ a ⟨rfl, S2⟩ H
  replace S := S.call S2;clear S2
  refine wpList_nil (And.intro (S.sel [0] rfl rfl) ?_)
  refine wq_yes H rfl rfl rfl rfl (fun _ S => does_not rfl) ?_;clear H a;intro a H
  refine qF H <| qd rfl (fun _ S => (does_or rfl rfl rfl)) <| qr 1 rfl <| qK ?_;clear H a;intro a H
  refine wq_no H rfl rfl rfl rfl rfl ?_;clear H a;intro a H
  refine wq_no H rfl rfl rfl rfl rfl ?_;clear H a;intro a H
  refine wq_no H rfl rfl rfl rfl rfl ?_;clear H a;intro a H
  refine wq_no H rfl rfl rfl rfl rfl ?_;clear H a;intro a H
  refine wq_no H rfl rfl rfl rfl rfl ?_;clear H a;intro a H
  refine qF H <| qd rfl (fun _ S => (does_pick rfl rfl rfl)) <| qr 1 rfl <| qK ?_;clear H a;intro a H
  refine wq_no H rfl rfl rfl rfl rfl ?_;clear H a;intro a H
  refine wq_no H rfl rfl rfl rfl rfl ?_;clear H a;intro a H
  refine wq_no H rfl rfl rfl rfl rfl ?_;clear H a;intro a H
  refine wq_no H rfl rfl rfl rfl rfl ?_;clear H a;intro a H
  refine qF H <| qd rfl (fun _ S => (does_pick rfl rfl rfl)) <| qK ?_;clear H a;intro a H
  refine wq_nil ?_
  refine k10 _ _ ?_
  clear k10 K10
  refine cond_ H rfl (fun hc4 => ?_) (fun hc4 => ?_)
  ·skip
   skip
   replace H := H.keep [] rfl
   refine sS H fun K11 k11=>sr 1 rfl <| sE ?_;clear H a;intro a H
   refine k11 _ ?_;clear k11 K11
   refine wp_ret ?_
   refine ret1 (fn := Try.f66) rfl H rfl ?_
   refine ⟨?_, (S.sel [] rfl rfl)⟩; rw [if_neg (by unfold escOk; simp only [Bool.and_eq_true, decide_eq_true_eq]; rintro ⟨h1, _⟩; omega)]
  skip
  exact absurd hc4 (by decide)
 ·skip
  skip
  replace H := H.keep [1, 3] rfl
  replace S := S.drew
  refine seq_wq [(0, true), (1, true), (2, true), (3, true), (4, true), (5, true), (6, true), (7, true), (8, true), (9, true), (10, true), (11, false), (12, false), (13, true), (14, true), (15, true), (16, true), (17, true), (18, false), (19, false), (20, true), (21, true), (22, true), (23, true), (24, true), (25, false), (26, false), (27, true), (28, true), (29, true), (30, true), (31, true), (32, true), (33, true), (34, true)] (by kernel_rfl) (by kernel_rfl) (S.sel [0] rfl rfl) fun K12 k12 => ?_
  refine qF H <| qd rfl (fun _ S => (does_field fo_81_1 rfl)) <| qd rfl (fun _ S => does_load one_3 rfl (boxM.rd S (i := 0) rfl rfl)) <| qd rfl (fun _ S => Does.to (does_lss rfl rfl) (congrArg Value.bool (decide_eq_false (by omega)))) <| qr 1 rfl <| qK ?_;clear H a;intro a H
  refine wq_yes H rfl rfl rfl rfl (fun _ S => (does_field fo_81_1 rfl)) ?_;clear H a;intro a H
  refine wq_yes H rfl rfl rfl rfl (fun _ S => does_load one_3 rfl (boxM.rd S (i := 0) rfl rfl)) ?_;clear H a;intro a H
  refine wq_yes H rfl rfl rfl rfl (fun _ S => Does.to (does_gtr rfl rfl) (congrArg Value.bool (decide_eq_false (by omega)))) ?_;clear H a;intro a H
  refine qF H <| qd rfl (fun _ S => (does_or rfl rfl rfl)) <| qr 1 rfl <| qK ?_;clear H a;intro a H
  refine wq_yes H rfl rfl rfl rfl (fun _ S => (does_field fo_81_2 rfl)) ?_;clear H a;intro a H
  refine wq_yes H rfl rfl rfl rfl (fun _ S => does_load one_3 rfl (boxM.rd S (i := 0) rfl rfl)) ?_;clear H a;intro a H
  refine wq_eff rfl ?_
  refine list_yes H rfl rfl ?_
  refine list_call H rfl rfl Try.func68 rfl rfl (drv_to _ _) ?_;clear H a
  rintro _ _ a ⟨rfl, S2⟩ H
  replace S := S.call S2;clear S2
  refine wpList_nil (And.intro (S.sel [0] rfl rfl) ?_)
  refine wq_eff rfl ?_
  refine list_yes H rfl rfl ?_
  refine list_call H rfl rfl Try.func67 rfl rfl (drv_in_yes (by omega)) ?_;clear H a
  rintro _ _ a ⟨rfl, S2⟩ H
  replace S := S.call S2;clear S2
  refine wpList_nil (And.intro (S.sel [0] rfl rfl) ?_)
  refine wq_yes H rfl rfl rfl rfl (fun _ S => does_not rfl) ?_;clear H a;intro a H
  refine qF H <| qd rfl (fun _ S => (does_or rfl rfl rfl)) <| qr 1 rfl <| qK ?_;clear H a;intro a H
  refine wq_yes H rfl rfl rfl rfl (fun _ S => (does_field fo_81_3 rfl)) ?_;clear H a;intro a H
  refine wq_yes H rfl rfl rfl rfl (fun _ S => does_load one_3 rfl (boxM.rd S (i := 0) rfl rfl)) ?_;clear H a;intro a H
  refine wq_eff rfl ?_
  refine list_yes H rfl rfl ?_
  refine list_call H rfl rfl Try.func68 rfl rfl (drv_to _ _) ?_;clear H a
  rintro _ _ a ⟨rfl, S2⟩ H
  replace S := S.call S2;clear S2
  refine wpList_nil (And.intro (S.sel [0] rfl rfl) ?_)
  refine wq_eff rfl ?_
  refine list_yes H rfl rfl ?_
  refine list_call H rfl rfl Try.func67 rfl rfl (drv_in_yes (by omega)) ?_;clear H a
  rintro _ _ a ⟨rfl, S2⟩ H
  replace S := S.call S2;clear S2
  refine wpList_nil (And.intro (S.sel [0] rfl rfl) ?_)
  refine wq_yes H rfl rfl rfl rfl (fun _ S => does_not rfl) ?_;clear H a;intro a H
  refine qF H <| qd rfl (fun _ S => (does_or rfl rfl rfl)) <| qr 1 rfl <| qK ?_;clear H a;intro a H
  refine wq_yes H rfl rfl rfl rfl (fun _ S => (does_field fo_81_4 rfl)) ?_;clear H a;intro a H
  refine wq_yes H rfl rfl rfl rfl (fun _ S => does_load one_3 rfl (boxM.rd S (i := 0) rfl rfl)) ?_;clear H a;intro a H
  refine wq_eff rfl ?_
  refine list_yes H rfl rfl ?_
  refine list_call H rfl rfl Try.func68 rfl rfl (drv_to _ _) ?_;clear H a
  rintro _ _ a ⟨rfl, S2⟩ H
  replace S := S.call S2;clear S2
  refine wpList_nil (And.intro (S.sel [0] rfl rfl) ?_)
  refine wq_eff rfl ?_
  refine list_yes H rfl rfl ?_
  refine list_call H rfl rfl Try.func67 rfl rfl (drv_in_no (by omega)) ?_;clear H a
  rintro _ _ a ⟨rfl, S2⟩ H
  replace S := S.call S2;clear S2
  refine wpList_nil (And.intro (S.sel [0] rfl rfl) ?_)
  refine wq_yes H rfl rfl rfl rfl (fun _ S => does_not rfl) ?_;clear H a;intro a H
  refine qF H <| qd rfl (fun _ S => (does_or rfl rfl rfl)) <| qr 1 rfl <| qK ?_;clear H a;intro a H
  refine wq_no H rfl rfl rfl rfl rfl ?_;clear H a;intro a H
  refine wq_no H rfl rfl rfl rfl rfl ?_;clear H a;intro a H
  refine wq_no H rfl rfl rfl rfl rfl ?_;clear H a;intro a H
  refine wq_no H rfl rfl rfl rfl rfl ?_;clear H a;intro a H
  refine qF H <| qd rfl (fun _ S => (does_pick rfl rfl rfl)) <| qK ?_;clear H a;intro a H
  refine wq_nil ?_
  refine k12 _ _ ?_
  clear k12 K12
  refine cond_ H rfl (fun hc5 => ?_) (fun hc5 => ?_)
  ·skip
   skip
   replace H := H.keep [] rfl
   refine sS H fun K13 k13=>sr 1 rfl <| sE ?_;clear H a;intro a H
   refine k13 _ ?_;clear k13 K13
   refine wp_ret ?_
   refine ret1 (fn := Try.f66) rfl H rfl ?_
   refine ⟨?_, (S.sel [] rfl rfl)⟩; rw [if_neg (by unfold escOk; simp only [Bool.and_eq_true, decide_eq_true_eq]; rintro ⟨h1, _⟩; omega)]
  skip
  exact absurd hc5 (by decide)
 ·skip
  skip
  replace H := H.keep [1, 3] rfl
  replace S := S.drew
  refine seq_wq [(0, true), (1, true), (2, true), (3, true), (4, true), (5, true), (6, true), (7, true), (8, true), (9, true), (10, true), (11, false), (12, false), (13, true), (14, true), (15, true), (16, true), (17, true), (18, false), (19, false), (20, true), (21, true), (22, true), (23, true), (24, true), (25, false), (26, false), (27, true), (28, true), (29, true), (30, true), (31, true), (32, true), (33, true), (34, true)] (by kernel_rfl) (by kernel_rfl) (S.sel [0] rfl rfl) fun K14 k14 => ?_
  refine qF H <| qd rfl (fun _ S => (does_field fo_81_1 rfl)) <| qd rfl (fun _ S => does_load one_3 rfl (boxM.rd S (i := 0) rfl rfl)) <| qd rfl (fun _ S => Does.to (does_lss rfl rfl) (congrArg Value.bool (decide_eq_false (by omega)))) <| qr 1 rfl <| qK ?_;clear H a;intro a H
  refine wq_yes H rfl rfl rfl rfl (fun _ S => (does_field fo_81_1 rfl)) ?_;clear H a;intro a H
  refine wq_yes H rfl rfl rfl rfl (fun _ S => does_load one_3 rfl (boxM.rd S (i := 0) rfl rfl)) ?_;clear H a;intro a H
  refine wq_yes H rfl rfl rfl rfl (fun _ S => Does.to (does_gtr rfl rfl) (congrArg Value.bool (decide_eq_false (by omega)))) ?_;clear H a;intro a H
  refine qF H <| qd rfl (fun _ S => (does_or rfl rfl rfl)) <| qr 1 rfl <| qK ?_;clear H a;intro a H
  refine wq_yes H rfl rfl rfl rfl (fun _ S => (does_field fo_81_2 rfl)) ?_;clear H a;intro a H
  refine wq_yes H rfl rfl rfl rfl (fun _ S => does_load one_3 rfl (boxM.rd S (i := 0) rfl rfl)) ?_;clear H a;intro a H
  refine wq_eff rfl ?_
  refine list_yes H rfl rfl ?_
  refine list_call H rfl rfl Try.func68 rfl rfl (drv_to _ _) ?_;clear H a
  rintro _ _ a ⟨rfl, S2⟩ H
  replace S := S.call S2;clear S2
  refine wpList_nil (And.intro (S.sel [0] rfl rfl) ?_)
  refine wq_eff rfl ?_
  refine list_yes H rfl rfl ?_
  refine list_call H rfl rfl Try.func67 rfl rfl (drv_in_yes (by omega)) ?_;clear H a
  rintro _ _ a ⟨rfl, S2⟩ H
  replace S := S.call S2;clear S2
  refine wpList_nil (And.intro (S.sel [0] rfl rfl) ?_)
  refine wq_yes H rfl rfl rfl rfl (fun _ S => does_not rfl) ?_;clear H a;intro a H
  refine qF H <| qd rfl (fun _ S => (does_or rfl rfl rfl)) <| qr 1 rfl <| qK ?_;clear H a;intro a H
  refine wq_yes H rfl rfl rfl rfl (fun _ S => (does_field fo_81_3 rfl)) ?_;clear H a;intro a H
  refine wq_yes H rfl rfl rfl rfl (fun _ S => does_load one_3 rfl (boxM.rd S (i := 0) rfl rfl)) ?_;clear H a;intro a H
  refine wq_eff rfl ?_
  refine list_yes H rfl rfl ?_
  refine list_call H rfl rfl Try.func68 rfl rfl (drv_to _ _) ?_;clear H a
  rintro _ _ a ⟨rfl, S2⟩ H
  replace S := S.call S2;clear S2
  refine wpList_nil (And.intro (S.sel [0] rfl rfl) ?_)
  refine wq_eff rfl ?_
  refine list_yes H rfl rfl ?_
  refine list_call H rfl rfl Try.func67 rfl rfl (drv_in_yes (by omega)) ?_;clear H a
  rintro _ _ a ⟨rfl, S2⟩ H
  replace S := S.call S2;clear S2
  refine wpList_nil (And.intro (S.sel [0] rfl rfl) ?_)
  refine wq_yes H rfl rfl rfl rfl (fun _ S => does_not rfl) ?_;clear H a;intro a H
  refine qF H <| qd rfl (fun _ S => (does_or rfl rfl rfl)) <| qr 1 rfl <| qK ?_;clear H a;intro a H
  refine wq_yes H rfl rfl rfl rfl (fun _ S => (does_field fo_81_4 rfl)) ?_;clear H a;intro a H
  refine wq_yes H rfl rfl rfl rfl (fun _ S => does_load one_3 rfl (boxM.rd S (i := 0) rfl rfl)) ?_;clear H a;intro a H
  refine wq_eff rfl ?_
  refine list_yes H rfl rfl ?_
  refine list_call H rfl rfl Try.func68 rfl rfl (drv_to _ _) ?_;clear H a
  rintro _ _ a ⟨rfl, S2⟩ H
  replace S := S.call S2;clear S2
  refine wpList_nil (And.intro (S.sel [0] rfl rfl) ?_)
  refine wq_eff rfl ?_
  refine list_yes H rfl rfl ?_
  refine list_call H rfl rfl Try.func67 rfl rfl (drv_in_yes (by omega)) ?_;clear H a
  rintro _ _ a ⟨rfl, S2⟩ H
  replace S := S.call S2;clear S2
  refine wpList_nil (And.intro (S.sel [0] rfl rfl) ?_)
  refine wq_yes H rfl rfl rfl rfl (fun _ S => does_not rfl) ?_;clear H a;intro a H
  refine qF H <| qd rfl (fun _ S => (does_or rfl rfl rfl)) <| qr 1 rfl <| qK ?_;clear H a;intro a H
  refine wq_yes H rfl rfl rfl rfl (fun _ S => (does_field fo_81_5 rfl)) ?_;clear H a;intro a H
  refine wq_yes H rfl rfl rfl rfl (fun _ S => does_load one_79 rfl (boxM.rd S (i := 0) rfl rfl)) ?_;clear H a;intro a H
  refine wq_yes H rfl rfl rfl rfl (fun _ S => does_len sl_79 rfl) ?_;clear H a;intro a H
  refine wq_yes H rfl rfl rfl rfl (fun _ S => Does.to (does_gtr rfl rfl) (congrArg Value.bool (decide_eq_true (by omega)))) ?_;clear H a;intro a H
  refine qF H <| qd rfl (fun _ S => (does_or rfl rfl rfl)) <| qK ?_;clear H a;intro a H
  refine wq_nil ?_
  refine k14 _ _ ?_
  clear k14 K14
  refine cond_ H rfl (fun hc6 => ?_) (fun hc6 => ?_)
  ·skip
   skip
   replace H := H.keep [] rfl
   refine sS H fun K15 k15=>sr 1 rfl <| sE ?_;clear H a;intro a H
   refine k15 _ ?_;clear k15 K15
   refine wp_ret ?_
   refine ret1 (fn := Try.f66) rfl H rfl ?_
   refine ⟨?_, (S.sel [] rfl rfl)⟩; rw [if_neg (by unfold escOk; simp only [Bool.and_eq_true, decide_eq_true_eq]; rintro ⟨h1, _⟩; omega)]
  skip
  exact absurd hc6 (by decide)
 skip
 replace H := H.keep [1, 3] rfl
 replace S := S.drew
 refine seq_wq [(0, true), (1, true), (2, true), (3, true), (4, true), (5, true), (6, true), (7, true), (8, true), (9, true), (10, true), (11, false), (12, false), (13, true), (14, true), (15, true), (16, true), (17, true), (18, false), (19, false), (20, true), (21, true), (22, true), (23, true), (24, true), (25, false), (26, false), (27, true), (28, true), (29, true), (30, true), (31, true), (32, true), (33, true), (34, true)] (by kernel_rfl) (by kernel_rfl) (S.sel [0] rfl rfl) fun K16 k16 => ?_
 refine qF H <| qd rfl (fun _ S => (does_field fo_81_1 rfl)) <| qd rfl (fun _ S => does_load one_3 rfl (boxM.rd S (i := 0) rfl rfl)) <| qd rfl (fun _ S => Does.to (does_lss rfl rfl) (congrArg Value.bool (decide_eq_false (by omega)))) <| qr 1 rfl <| qK ?_;clear H a;intro a H
 refine wq_yes H rfl rfl rfl rfl (fun _ S => (does_field fo_81_1 rfl)) ?_;clear H a;intro a H
 refine wq_yes H rfl rfl rfl rfl (fun _ S => does_load one_3 rfl (boxM.rd S (i := 0) rfl rfl)) ?_;clear H a;intro a H
 refine wq_yes H rfl rfl rfl rfl (fun _ S => Does.to (does_gtr rfl rfl) (congrArg Value.bool (decide_eq_false (by omega)))) ?_;clear H a;intro a H
 refine qF H <| qd rfl (fun _ S => (does_or rfl rfl rfl)) <| qr 1 rfl <| qK ?_;clear H a;intro a H
 refine wq_yes H rfl rfl rfl rfl (fun _ S => (does_field fo_81_2 rfl)) ?_;clear H a;intro a H
 refine wq_yes H rfl rfl rfl rfl (fun _ S => does_load one_3 rfl (boxM.rd S (i := 0) rfl rfl)) ?_;clear H a;intro a H
 refine wq_eff rfl ?_
 refine list_yes H rfl rfl ?_
 refine list_call H rfl rfl Try.func68 rfl rfl (drv_to _ _) ?_;clear H a
 rintro _ _ a ⟨rfl, S2⟩ H
 replace S := S.call S2;clear S2
 refine wpList_nil (And.intro (S.sel [0] rfl rfl) ?_)
 refine wq_eff rfl ?_
 refine list_yes H rfl rfl ?_
 refine list_call H rfl rfl Try.func67 rfl rfl (drv_in_yes (by omega)) ?_;clear H a
 rintro _ _ a ⟨rfl, S2⟩ H
 replace S := S.call S2;clear S2
 refine wpList_nil (And.intro (S.sel [0] rfl rfl) ?_)
 refine wq_yes H rfl rfl rfl rfl (fun _ S => does_not rfl) ?_;clear H a;intro a H
 refine qF H <| qd rfl (fun _ S => (does_or rfl rfl rfl)) <| qr 1 rfl <| qK ?_;clear H a;intro a H
 refine wq_yes H rfl rfl rfl rfl (fun _ S => (does_field fo_81_3 rfl)) ?_;clear H a;intro a H
 refine wq_yes H rfl rfl rfl rfl (fun _ S => does_load one_3 rfl (boxM.rd S (i := 0) rfl rfl)) ?_;clear H a;intro a H
 refine wq_eff rfl ?_
 refine list_yes H rfl rfl ?_
 refine list_call H rfl rfl Try.func68 rfl rfl (drv_to _ _) ?_;clear H a
 rintro _ _ a ⟨rfl, S2⟩ H
 replace S := S.call S2;clear S2
 refine wpList_nil (And.intro (S.sel [0] rfl rfl) ?_)
 refine wq_eff rfl ?_
 refine list_yes H rfl rfl ?_
 refine list_call H rfl rfl Try.func67 rfl rfl (drv_in_yes (by omega)) ?_;clear H a
 rintro _ _ a ⟨rfl, S2⟩ H
 replace S := S.call S2;clear S2
 refine wpList_nil (And.intro (S.sel [0] rfl rfl) ?_)
 refine wq_yes H rfl rfl rfl rfl (fun _ S => does_not rfl) ?_;clear H a;intro a H
 refine qF H <| qd rfl (fun _ S => (does_or rfl rfl rfl)) <| qr 1 rfl <| qK ?_;clear H a;intro a H
 refine wq_yes H rfl rfl rfl rfl (fun _ S => (does_field fo_81_4 rfl)) ?_;clear H a;intro a H
 refine wq_yes H rfl rfl rfl rfl (fun _ S => does_load one_3 rfl (boxM.rd S (i := 0) rfl rfl)) ?_;clear H a;intro a H
 refine wq_eff rfl ?_
 refine list_yes H rfl rfl ?_
 refine list_call H rfl rfl Try.func68 rfl rfl (drv_to _ _) ?_;clear H a
 rintro _ _ a ⟨rfl, S2⟩ H
 replace S := S.call S2;clear S2
 refine wpList_nil (And.intro (S.sel [0] rfl rfl) ?_)
 refine wq_eff rfl ?_
 refine list_yes H rfl rfl ?_
 refine list_call H rfl rfl Try.func67 rfl rfl (drv_in_yes (by omega)) ?_;clear H a
 rintro _ _ a ⟨rfl, S2⟩ H
 replace S := S.call S2;clear S2
 refine wpList_nil (And.intro (S.sel [0] rfl rfl) ?_)
 refine wq_yes H rfl rfl rfl rfl (fun _ S => does_not rfl) ?_;clear H a;intro a H
 refine qF H <| qd rfl (fun _ S => (does_or rfl rfl rfl)) <| qr 1 rfl <| qK ?_;clear H a;intro a H
 refine wq_yes H rfl rfl rfl rfl (fun _ S => (does_field fo_81_5 rfl)) ?_;clear H a;intro a H
 refine wq_yes H rfl rfl rfl rfl (fun _ S => does_load one_79 rfl (boxM.rd S (i := 0) rfl rfl)) ?_;clear H a;intro a H
 refine wq_yes H rfl rfl rfl rfl (fun _ S => does_len sl_79 rfl) ?_;clear H a;intro a H
 refine wq_yes H rfl rfl rfl rfl (fun _ S => Does.to (does_gtr rfl rfl) (congrArg Value.bool (decide_eq_false (by omega)))) ?_;clear H a;intro a H
 refine qF H <| qd rfl (fun _ S => (does_or rfl rfl rfl)) <| qK ?_;clear H a;intro a H
 refine wq_nil ?_
 refine k16 _ _ ?_
 clear k16 K16
 refine cond_ H rfl (fun hc7 => ?_) (fun hc7 => ?_)
 ·skip
  skip
  exact absurd hc7 (by decide)
 skip
 refine wp_skip ?_
 refine k3 _ _ ?_
 refine wp_seq_k fun K17 k17 => ?_
 replace H := H.keep [1, 3] rfl
 refine sS H fun K18 k18=>sf fo_81_5 rfl <| sl S 0 one_79 rfl rfl rfl <| sL sl_79 rfl <| sr 1 rfl <| sE ?_;clear H a;intro a H
 refine k18 _ ?_;clear k18 K18
 refine wp_block ?_
 refine loop_st (X := Nat) (R0 := _) [3, 42, 43] H rfl (fun k => [(44, .int .i64 (k : Int))]) (fun k => []) (fun g k => k ≤ br.length ∧ g + k = br.length ∧ (br.take k).all brakeOk = true) (br.length) 0 ?_ (S.sel [0] rfl rfl) (H.keep [44, 3, 42, 43] rfl) ?_
 · exact ⟨by omega, by omega, by simp⟩
 clear H S a
 intro g1 x1 a w1 hp S H K19 k19
 obtain ⟨k, rfl⟩ : ∃ y, y = x1 := ⟨_, rfl⟩
 refine sS H fun K20 k20=>sr 1 rfl <| sE ?_;clear H a;intro a H
 refine k20 _ ?_;clear k20 K20
 refine wp_seq_k fun K21 k21 => ?_
 refine condL H rfl (fun hc8 => ?_) (fun hc8 => ?_)
 ·skip
  refine wp_skip ?_
  refine k21 _ _ ?_
  refine wp_seq_k fun K22 k22 => ?_
  refine wp_block ?_
  refine seq_list fun K23 k23 => ?_
  refine ls 2 H <| si sl_79 sz_123 rfl rfl (hb.adr (by omega)) (by omega) <| sd ((does_loadIn agg_123 sz_123 rfl S hb (by omega) (by omega))) <| sE ?_;clear H a;intro a H
  refine list_alloc H rfl S ze_123 ?_;clear H a S;intro b5 _ a hb5 hbw5 S H
  refine list_store H S (i := 0) rfl rfl rfl rfl sz_123 rfl rfl ?_
  clear H a S;intro _ a S H
  refine k23 _ _ ?_;clear k23 K23
  refine seq_list fun K24 k24 => ?_
  refine ls 2 H <| sr 1 rfl <| sd ((does_loadBox agg_123 sz_123 rfl S (i := 0) rfl rfl)) <| sE ?_;clear H a;intro a H
  refine list_callv H rfl rfl rfl Try.func78 rfl rfl (drv_sound (br.getD k Brake.zero) _) ?_;clear H a
  rintro _ _ a ⟨rfl, S2⟩ H
  replace S := S.call S2;clear S2
  refine ls 1 H <| sr 1 rfl <| sE ?_;clear H a;intro a H
  refine k24 _ _ ?_;clear k24 K24
  refine cond_ H rfl (fun hc9 => ?_) (fun hc9 => ?_)
  ·skip
   try simp only [o1,o2,o3,o4,o5,o6,o7,o8,o9,oa] at hc9
   replace H := H.keep [] rfl
   refine sS H fun K25 k25=>sr 1 rfl <| sE ?_;clear H a;intro a H
   refine k25 _ ?_;clear k25 K25
   refine wp_ret ?_
   refine ret1 (fn := Try.f66) rfl H rfl ?_
   refine ⟨?_, (S.sel [] rfl rfl)⟩; rw [if_neg (by unfold escOk; rw [all_false (l := br) (k := k) (d := Brake.zero) (by omega) (by simpa using hc9)]; simp)]
  try simp only [o1,o2,o3,o4,o5,o6,o7,o8,o9,oa] at hc9
  refine wp_skip ?_
  refine k22 _ _ ?_
  refine sO H <| sd (does_add rfl rfl (by unfold i64ok; omega)) <| sr 1 rfl <| sE ?_;clear H a;intro a H
  exact k19 (g1 - 1) (k + 1) a _ (by omega) (⟨by omega, by omega, all_take (d := Brake.zero) (by omega) hp.2.2 (by simpa using hc9)⟩) (S.sel [1] rfl rfl) (H.keep [44, 3, 42, 43] rfl)
 refine wp_exit ?_
 refine k17 _ _ ?_
 refine sS H fun K27 k27=>sr 1 rfl <| sE ?_;clear H a;intro a H
 refine k27 _ ?_;clear k27 K27
 refine wp_ret ?_
 refine ret1 (fn := Try.f66) rfl H rfl ?_
 refine ⟨?_, (S.sel [] rfl rfl)⟩; rw [List.take_of_length_le (by omega)] at hp; rw [if_pos (by unfold escOk; simp only [Bool.and_eq_true, decide_eq_true_eq]; exact ⟨by omega, hp.2.2⟩)]

theorem drv_floor (a b : Int) (w : World) (hb : 0 < b) (ha : i64ok a) (ha2 : -9000000000000000000 ≤ a ∧ a ≤ 9000000000000000000) :
    Calls Try.prog 96 [.int .i64 a, .int .i64 b].toArray w (Ret (fun v w' => v = .int .i64 (a / b) ∧ St w noF [] w')) := by
 have hfl := floor_of (m := a) hb; have hdb := div_bd (B := 9000000000000000000) hb ha2
 refine enter Try.func96 rfl Try.ntmps96 rfl (fun a H => ?_)
 have S := St.start w
 refine sS H fun K1 k1=>sr 1 rfl <| sE ?_;clear H a;intro a H
 refine k1 _ ?_;clear k1 K1
 replace S := S.drew
 refine sD H fun K2 k2=>sr 2 rfl <| sd (does_tdiv rfl rfl (by omega) (tdiv_ok ha hb)) <| sr 2 rfl <| sd (does_tmod rfl rfl (by omega)) <| sr 2 rfl <| sE ?_;clear H a;intro a H
 refine k2 _ ?_;clear k2 K2
 refine wp_seq_k fun K3 k3 => ?_
 replace H := H.keep [5, 6] rfl
 refine sS H fun K4 k4=>sr 2 rfl <| sE ?_;clear H a;intro a H
 refine k4 _ ?_;clear k4 K4
 refine condL H rfl (fun hc1 => ?_) (fun hc1 => ?_)
 ·skip
  refine sO H <| sr 1 rfl <| sd (does_sub rfl rfl (by unfold i64ok; omega)) <| sr 1 rfl <| sE ?_;clear H a;intro a H
  refine k3 _ _ ?_
  refine sS H fun K6 k6=>sr 2 rfl <| sE ?_;clear H a;intro a H
  refine k6 _ ?_;clear k6 K6
  refine wp_ret ?_
  refine ret1 (fn := Try.f96) rfl H rfl ?_
  first | rw [if_pos (by omega)] at hfl | rw [if_neg (by omega)] at hfl
  exact ⟨congrArg (Value.int .i64) (by omega), (S.sel [] rfl rfl)⟩
 refine wp_skip ?_
 refine k3 _ _ ?_
 refine sS H fun K7 k7=>sr 2 rfl <| sE ?_;clear H a;intro a H
 refine k7 _ ?_;clear k7 K7
 refine wp_ret ?_
 refine ret1 (fn := Try.f96) rfl H rfl ?_
 first | rw [if_pos (by omega)] at hfl | rw [if_neg (by omega)] at hfl
 exact ⟨congrArg (Value.int .i64) (by omega), (S.sel [] rfl rfl)⟩

theorem drv_ahead (v g f m : Int) (w : World) (hm : 0 < m) (hg : -50000000 ≤ g - f ∧ g - f ≤ 50000000) (hv : -1000000000000 ≤ v ∧ v ≤ 1000000000000) :
    Calls Try.prog 95 [.int .i64 v, .int .i64 g, .int .i64 f, .int .i64 m].toArray w (Ret (fun u w' => u = .int .i64 (aheadI v g f m) ∧ St w noF [] w')) := by
 have hdb := div_bd (B := 50000000) hm hg
 refine enter Try.func95 rfl Try.ntmps95 rfl (fun a H => ?_)
 have S := St.start w
 refine sS H fun K1 k1=>sr 1 rfl <| sE ?_;clear H a;intro a H
 refine k1 _ ?_;clear k1 K1
 replace H := H.keep [0, 1, 2, 3] rfl
 refine seq_list fun K2 k2 => ?_
 refine ls 5 H <| sr 3 rfl <| sd (does_sub rfl rfl (by unfold i64ok; omega)) <| sr 1 rfl <| sE ?_;clear H a;intro a H
 refine list_call H rfl rfl Try.func96 rfl rfl (drv_floor _ _ _ hm (by unfold i64ok; omega) (by omega)) ?_;clear H a
 rintro _ _ a ⟨rfl, S2⟩ H
 replace S := S.call S2;clear S2
 refine ls 3 H <| sd (does_add rfl rfl (by unfold i64ok; omega)) <| sd (does_max rfl rfl) <| sr 1 rfl <| sE ?_;clear H a;intro a H
 refine k2 _ _ ?_;clear k2 K2
 refine wp_ret ?_
 refine ret1 (fn := Try.f95) rfl H rfl ?_
 exact ⟨rfl, (S.sel [] rfl rfl)⟩

theorem drv_tick (up : Bool) (empty pull drag motor : Int) (br : List Brake) (BA : Option Addr) (bcp : Nat) (v x bf : Int) (w : World) (hesc : escOk (⟨up, empty, pull, drag, motor, br⟩ : Esc) = true) (hx : 0 ≤ x ∧ x ≤ 100000) (hbf : 0 ≤ bf ∧ bf ≤ 30000000) (hv : -900000000000 ≤ v ∧ v ≤ 900000000000) :
    Calls Try.prog 89 [.agg [.bool up, .int .i64 empty, .int .i64 pull, .int .i64 drag, .int .i64 motor, .slice BA br.length bcp].toArray, .int .i64 v, .int .i64 x, .int .i64 bf].toArray w (Ret (fun u w' => u = .int .i64 (tickI (⟨up, empty, pull, drag, motor, br⟩ : Esc) v x bf) ∧ St w noF [] w')) := by
 have hE := esc_parts hesc
 dsimp only at hE
 obtain ⟨hE1, hE2, hE3, hE4, hE5⟩ := hE
 have hm1 : 0 ≤ pull * x := Int.mul_nonneg (by omega) (by omega)
 have hm2 : pull * x ≤ 100 * 100000 := Int.mul_le_mul (by omega) (by omega) (by omega) (by omega)
 have ab : ∀ v' g' : Int, (-900000000000 ≤ v' ∧ v' ≤ 900000000000) → (-10000000 ≤ g' ∧ g' ≤ 10000000) → 0 ≤ aheadI v' g' (drag + bf) (empty + x) ∧ aheadI v' g' (drag + bf) (empty + x) ≤ 1000000000000 := fun v' g' h h' => by have := div_bd (x := g' - (drag + bf)) (m := empty + x) (B := 50000000) (by omega) (by omega); unfold aheadI; omega
 refine enter Try.func89 rfl Try.ntmps89 rfl (fun a H => ?_)
 have S := St.start w
 refine seq_list fun K1 k1 => ?_
 refine list_box H rfl S rfl rfl ?_;clear H a S;intro b4 _ a hb4 hbw4 S H
 refine ls 1 H <| sr 1 rfl <| sE ?_;clear H a;intro a H
 refine k1 _ _ ?_;clear k1 K1
 replace H := H.keep [1, 2, 3, 4] rfl
 replace S := S.drew
 refine sD H fun K2 k2=>sf fo_81_2 rfl <| sl S 0 one_3 rfl rfl rfl <| sr 1 rfl <| sd (does_mul rfl rfl (by unfold i64ok; omega)) <| sf fo_81_3 rfl <| sl S 0 one_3 rfl rfl rfl <| sr 1 rfl <| sd (does_add rfl rfl (by unfold i64ok; omega)) <| sf fo_81_1 rfl <| sl S 0 one_3 rfl rfl rfl <| sr 1 rfl <| sd (does_add rfl rfl (by unfold i64ok; omega)) <| sr 3 rfl <| sE ?_;clear H a;intro a H
 refine k2 _ ?_;clear k2 K2
 refine wp_seq_k fun K3 k3 => ?_
 cases up
 ·skip
  replace H := H.keep [1, 4, 9, 10, 11] rfl
  refine sS H fun K4 k4=>sf fo_81_0 rfl <| sl S 0 one_4 rfl rfl rfl <| sE ?_;clear H a;intro a H
  refine k4 _ ?_;clear k4 K4
  refine cond_ H rfl (fun hc1 => ?_) (fun hc1 => ?_)
  ·skip
   skip
   exact absurd hc1 (by decide)
  skip
  refine wp_skip ?_
  refine k3 _ _ ?_
  refine wp_seq_k fun K5 k5 => ?_
  replace H := H.keep [1, 9, 10, 11] rfl
  refine sS H fun K6 k6=>sr 3 rfl <| sg 6 2 30 36 false rfl rfl (fun hg3 => sy hg3 <| sr 1 rfl <| sy hg3 <| sr 1 rfl <| sy hg3 <| sr 1 rfl <| sg 2 5 33 35 true rfl rfl (fun hg6 => sy hg6 <| sr 1 rfl <| sy hg6 <| sr 1 rfl <| sz 2 rfl rfl rfl) <| sy hg3 <| sa rfl rfl rfl <| sz 5 rfl rfl rfl) <| so rfl rfl rfl <| sE ?_;clear H a;intro a H
  refine k6 _ ?_;clear k6 K6
  refine cond_ H rfl (fun hc2 => ?_) (fun hc2 => ?_)
  ·skip
   try simp only [o1,o2,o3,o4,o5,o6,o7,o8,o9,oa] at hc2
   have a1 := ab (-v) (-(pull * x)) (by omega) (by omega); have a2 := ab (-v) (- -(pull * x)) (by omega) (by omega)
   replace H := H.keep [1, 9, 10, 11] rfl
   refine seq_list fun K7 k7 => ?_
   refine ls 6 H <| sr 1 rfl <| sd (does_neg rfl (by unfold i64ok; omega)) <| sr 1 rfl <| sd (does_neg rfl (by unfold i64ok; omega)) <| sr 2 rfl <| sE ?_;clear H a;intro a H
   refine list_call H rfl rfl Try.func95 rfl rfl (drv_ahead _ _ _ _ _ (by omega) (by omega) (by omega)) ?_;clear H a
   rintro _ _ a ⟨rfl, S2⟩ H
   replace S := S.call S2;clear S2
   refine ls 2 H <| sd (does_neg rfl (by unfold i64ok; omega)) <| sr 1 rfl <| sE ?_;clear H a;intro a H
   refine k7 _ _ ?_;clear k7 K7
   refine wp_ret ?_
   refine ret1 (fn := Try.f89) rfl H rfl ?_
   exact ⟨congrArg (Value.int .i64) (by unfold tickI; simp only [Bool.false_eq_true, if_true, if_false]; first | rw [if_pos (by omega)] | rw [if_neg (by omega)]), (S.sel [] rfl rfl)⟩
  try simp only [o1,o2,o3,o4,o5,o6,o7,o8,o9,oa] at hc2
  refine wp_skip ?_
  refine k5 _ _ ?_
  replace H := H.keep [1, 9, 10, 11] rfl
  refine seq_list fun K8 k8 => ?_
  refine ls 4 H <| sr 4 rfl <| sE ?_;clear H a;intro a H
  refine list_call H rfl rfl Try.func95 rfl rfl (drv_ahead _ _ _ _ _ (by omega) (by omega) (by omega)) ?_;clear H a
  rintro _ _ a ⟨rfl, S2⟩ H
  replace S := S.call S2;clear S2
  refine ls 1 H <| sr 1 rfl <| sE ?_;clear H a;intro a H
  refine k8 _ _ ?_;clear k8 K8
  refine wp_ret ?_
  refine ret1 (fn := Try.f89) rfl H rfl ?_
  exact ⟨congrArg (Value.int .i64) (by unfold tickI; simp only [Bool.false_eq_true, if_true, if_false]; first | rw [if_pos (by omega)] | rw [if_neg (by omega)]), (S.sel [] rfl rfl)⟩
 refine sS H fun K9 k9=>sf fo_81_0 rfl <| sl S 0 one_4 rfl rfl rfl <| sE ?_;clear H a;intro a H
 refine k9 _ ?_;clear k9 K9
 refine cond_ H rfl (fun hc3 => ?_) (fun hc3 => ?_)
 ·skip
  skip
  replace H := H.keep [1, 9, 10, 11] rfl
  refine sO H <| sr 1 rfl <| sd (does_neg rfl (by unfold i64ok; omega)) <| sr 1 rfl <| sE ?_;clear H a;intro a H
  refine k3 _ _ ?_
  refine wp_seq_k fun K11 k11 => ?_
  replace H := H.keep [1, 9, 10, 11] rfl
  refine sS H fun K12 k12=>sr 3 rfl <| sg 6 2 30 36 false rfl rfl (fun hg3 => sy hg3 <| sr 1 rfl <| sy hg3 <| sr 1 rfl <| sy hg3 <| sr 1 rfl <| sg 2 5 33 35 true rfl rfl (fun hg6 => sy hg6 <| sr 1 rfl <| sy hg6 <| sr 1 rfl <| sz 2 rfl rfl rfl) <| sy hg3 <| sa rfl rfl rfl <| sz 5 rfl rfl rfl) <| so rfl rfl rfl <| sE ?_;clear H a;intro a H
  refine k12 _ ?_;clear k12 K12
  refine cond_ H rfl (fun hc4 => ?_) (fun hc4 => ?_)
  ·skip
   try simp only [o1,o2,o3,o4,o5,o6,o7,o8,o9,oa] at hc4
   have a1 := ab (-v) (-(pull * x)) (by omega) (by omega); have a2 := ab (-v) (- -(pull * x)) (by omega) (by omega)
   replace H := H.keep [1, 9, 10, 11] rfl
   refine seq_list fun K13 k13 => ?_
   refine ls 6 H <| sr 1 rfl <| sd (does_neg rfl (by unfold i64ok; omega)) <| sr 1 rfl <| sd (does_neg rfl (by unfold i64ok; omega)) <| sr 2 rfl <| sE ?_;clear H a;intro a H
   refine list_call H rfl rfl Try.func95 rfl rfl (drv_ahead _ _ _ _ _ (by omega) (by omega) (by omega)) ?_;clear H a
   rintro _ _ a ⟨rfl, S2⟩ H
   replace S := S.call S2;clear S2
   refine ls 2 H <| sd (does_neg rfl (by unfold i64ok; omega)) <| sr 1 rfl <| sE ?_;clear H a;intro a H
   refine k13 _ _ ?_;clear k13 K13
   refine wp_ret ?_
   refine ret1 (fn := Try.f89) rfl H rfl ?_
   exact ⟨congrArg (Value.int .i64) (by unfold tickI; simp only [Bool.false_eq_true, if_true, if_false]; first | rw [if_pos (by omega)] | rw [if_neg (by omega)]), (S.sel [] rfl rfl)⟩
  try simp only [o1,o2,o3,o4,o5,o6,o7,o8,o9,oa] at hc4
  refine wp_skip ?_
  refine k11 _ _ ?_
  replace H := H.keep [1, 9, 10, 11] rfl
  refine seq_list fun K14 k14 => ?_
  refine ls 4 H <| sr 4 rfl <| sE ?_;clear H a;intro a H
  refine list_call H rfl rfl Try.func95 rfl rfl (drv_ahead _ _ _ _ _ (by omega) (by omega) (by omega)) ?_;clear H a
  rintro _ _ a ⟨rfl, S2⟩ H
  replace S := S.call S2;clear S2
  refine ls 1 H <| sr 1 rfl <| sE ?_;clear H a;intro a H
  refine k14 _ _ ?_;clear k14 K14
  refine wp_ret ?_
  refine ret1 (fn := Try.f89) rfl H rfl ?_
  exact ⟨congrArg (Value.int .i64) (by unfold tickI; simp only [Bool.false_eq_true, if_true, if_false]; first | rw [if_pos (by omega)] | rw [if_neg (by omega)]), (S.sel [] rfl rfl)⟩
 skip
 exact absurd hc3 (by decide)

theorem drv_grip (up : Bool) (empty pull drag motor : Int) (br : List Brake) (BA : Option Addr) (bcp : Nat) (sp slo shi sfail : Int) (mb : Nat) (v : Int) (t : Nat) (w : World) (F : Nat → Prop) (S : St w F [boxM mb 148 [.bool up, .int .i64 empty, .int .i64 pull, .int .i64 drag, .int .i64 motor, .slice BA br.length bcp, .int .i64 sp, .int .i64 slo, .int .i64 shi, .int .i64 sfail, .int .i64 (v), .int .i64 (t : Int)]] w) (hb : InS w F 2 BA br.length (bcell br)) (hesc : escOk (⟨up, empty, pull, drag, motor, br⟩ : Esc) = true) (hstp : stpOk (⟨up, empty, pull, drag, motor, br⟩ : Esc) (⟨sp, slo, shi, sfail⟩ : Stp) = true) :
    Calls Try.prog 90 [.pointer (some ⟨mb, 0, none⟩)].toArray w (Ret (fun u w' => u = .int .i64 (gripI (⟨up, empty, pull, drag, motor, br⟩ : Esc) (⟨sp, slo, shi, sfail⟩ : Stp) t) ∧ St w F [boxM mb 148 [.bool up, .int .i64 empty, .int .i64 pull, .int .i64 drag, .int .i64 motor, .slice BA br.length bcp, .int .i64 sp, .int .i64 slo, .int .i64 shi, .int .i64 sfail, .int .i64 (v), .int .i64 (t : Int)]] w')) := by
 have hE := esc_parts hesc
 dsimp only at hE
 obtain ⟨hE1, hE2, hE3, hE4, hE5⟩ := hE
 have hS1 := hstp; unfold stpOk at hS1; simp only [decide_eq_true_eq] at hS1
 refine enter Try.func90 rfl Try.ntmps90 rfl (fun a H => ?_)
 skip
 refine sS H fun K1 k1=>sr 1 rfl <| sE ?_;clear H a;intro a H
 refine k1 _ ?_;clear k1 K1
 refine wp_seq_k fun K2 k2 => ?_
 refine sS H fun K3 k3=>sr 2 rfl <| sf fo_148_0 rfl <| sf fo_81_5 rfl <| sl S 0 one_79 rfl rfl rfl <| sL sl_79 rfl <| sr 1 rfl <| sE ?_;clear H a;intro a H
 refine k3 _ ?_;clear k3 K3
 refine wp_block ?_
 refine loop_st (X := Nat) (R0 := _) [0, 9, 10] H rfl (fun k => [(2, .int .i64 (gripTo sfail t br k)), (11, .int .i64 (k : Int))]) (fun k => []) (fun g k => k ≤ br.length ∧ g + k = br.length) (br.length) 0 ?_ (S.sel [0] rfl rfl) (H.keep [2, 11, 0, 9, 10] rfl) ?_
 · exact ⟨by omega, by omega⟩
 clear H S a
 intro g1 x1 a w1 hp S H K4 k4
 obtain ⟨k, rfl⟩ : ∃ y, y = x1 := ⟨_, rfl⟩
 refine sS H fun K5 k5=>sr 1 rfl <| sE ?_;clear H a;intro a H
 refine k5 _ ?_;clear k5 K5
 refine wp_seq_k fun K6 k6 => ?_
 refine condL H rfl (fun hc1 => ?_) (fun hc1 => ?_)
 ·skip
  refine wp_skip ?_
  refine k6 _ _ ?_
  refine wp_seq_k fun K7 k7 => ?_
  refine wp_block ?_
  have hgb := grip_bd (fail := sfail) (t := t) (l := br) (by unfold escOk at hesc; simp only [Bool.and_eq_true] at hesc; exact hesc.2) k (by omega)
  have hkb := hE2 k (by omega); unfold brakeOk at hkb; simp only [decide_eq_true_eq] at hkb
  refine seq_list fun K8 k8 => ?_
  refine ls 3 H <| sr 1 rfl <| si sl_79 sz_123 rfl rfl (hb.adr (by omega)) (by omega) <| sd ((does_loadIn agg_123 sz_123 rfl S hb (by omega) (by omega))) <| sE ?_;clear H a;intro a H
  refine list_alloc H rfl S ze_123 ?_;clear H a S;intro b4 _ a hb4 hbw4 S H
  refine ls 1 H <| sr 1 rfl <| sE ?_;clear H a;intro a H
  refine list_store H S (i := 0) rfl rfl rfl rfl sz_123 rfl rfl ?_
  clear H a S;intro _ a S H
  refine k8 _ _ ?_;clear k8 K8
  replace H := H.keep [0, 2, 3, 4, 9, 10, 11] rfl
  replace S := S.drew
  refine sD H fun K9 k9=>sr 2 rfl <| sf fo_148_1 rfl <| sf fo_76_2 rfl <| sl S 1 one_3 rfl rfl rfl <| sr 1 rfl <| sd (does_shr rfl rfl (by omega) (by omega)) <| sd (does_and1 rfl rfl) <| sr 2 rfl <| sg 7 9 25 32 true rfl rfl (fun hg10 => sy hg10 <| sf fo_123_1 rfl <| sy hg10 <| sl S 0 one_3 rfl rfl rfl <| sy hg10 <| sr 1 rfl <| sy hg10 <| sr 1 rfl <| sy hg10 <| sf fo_148_3 rfl <| sy hg10 <| sl S 1 one_3 rfl rfl rfl <| sy hg10 <| sr 1 rfl <| sz 7 rfl rfl rfl) <| sa rfl rfl rfl <| sE ?_;clear H a;intro a H
  refine k9 _ ?_;clear k9 K9
  refine cond_ H rfl (fun hc2 => ?_) (fun hc2 => ?_)
  ·skip
   try simp only [o1,o2,o3,o4,o5,o6,o7,o8,o9,oa] at hc2
   replace H := H.keep [0, 2, 4, 9, 10, 11] rfl
   refine sO H <| sr 1 rfl <| sf fo_123_0 rfl <| sl S 0 one_3 rfl rfl rfl <| sd (does_add rfl rfl (by unfold i64ok; omega)) <| sr 1 rfl <| sE ?_;clear H a;intro a H
   refine k7 _ _ ?_
   refine sO H <| sd (does_add rfl rfl (by unfold i64ok; omega)) <| sr 1 rfl <| sE ?_;clear H a;intro a H
   try rw [Int.toNat_natCast] at hc2
   first | rw [gripTo_yes (fail := sfail) (t := (t : Int)) (l := br) (k := k) (by omega)] at H | rw [gripTo_no (fail := sfail) (t := (t : Int)) (l := br) (k := k) (by omega)] at H
   exact k4 (g1 - 1) (k + 1) a _ (by omega) (by omega) (S.sel [1] rfl rfl) (H.keep [2, 11, 0, 9, 10] rfl)
  try simp only [o1,o2,o3,o4,o5,o6,o7,o8,o9,oa] at hc2
  refine wp_skip ?_
  refine k7 _ _ ?_
  refine sO H <| sd (does_add rfl rfl (by unfold i64ok; omega)) <| sr 1 rfl <| sE ?_;clear H a;intro a H
  try rw [Int.toNat_natCast] at hc2
  first | rw [gripTo_yes (fail := sfail) (t := (t : Int)) (l := br) (k := k) (by omega)] at H | rw [gripTo_no (fail := sfail) (t := (t : Int)) (l := br) (k := k) (by omega)] at H
  exact k4 (g1 - 1) (k + 1) a _ (by omega) (by omega) (S.sel [1] rfl rfl) (H.keep [2, 11, 0, 9, 10] rfl)
 refine wp_exit ?_
 refine k2 _ _ ?_
 replace H := H.keep [2] rfl
 refine sS H fun K13 k13=>sr 2 rfl <| sE ?_;clear H a;intro a H
 refine k13 _ ?_;clear k13 K13
 refine wp_ret ?_
 refine ret1 (fn := Try.f90) rfl H rfl ?_
 have hk9 : k = br.length := by omega
 subst hk9
 exact ⟨rfl, (S.sel [0] rfl rfl)⟩

end Go.Proofs.Ytdepakimbagonaa
