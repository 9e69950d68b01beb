/- DrC. Printed by gen.py. -/
import Derived.Test.YtdepakimbagonaaDrB
namespace Go.Proofs.Ytdepakimbagonaa
open Go.RowKit
set_option linter.unusedVariables false
set_option linter.unusedSimpArgs false
set_option maxRecDepth 100000
set_option maxHeartbeats 4000000


theorem drv_checkStop (up : Bool) (empty pull drag motor : Int) (br : List Brake) (BA : Option Addr) (bcp : Nat) (sp slo shi sfail : Int) (w : World) (hb : InS w noF 2 BA br.length (bcell br)) (hbn : br.length ≤ 9223372036854775807) :
    Calls Try.prog 45 [.agg [.bool up, .int .i64 empty, .int .i64 pull, .int .i64 drag, .int .i64 motor, .slice BA br.length bcp].toArray, .agg [.int .i64 sp, .int .i64 slo, .int .i64 shi, .int .i64 sfail].toArray].toArray w (Ret (fun v w' => v = .int .i64 (stopE (⟨up, empty, pull, drag, motor, br⟩ : Esc) (⟨sp, slo, shi, sfail⟩ : Stp)) ∧ St w noF [] w')) := by
 refine enter Try.func45 rfl Try.ntmps45 rfl (fun a H => ?_)
 have S := St.start w
 refine seq_list fun K1 k1 => ?_
 refine list_box H rfl S rfl rfl ?_;clear H a S;intro b2 _ a hb2 hbw2 S H
 refine list_box H rfl S rfl rfl ?_;clear H a S;intro b3 _ a hb3 hbw3 S H
 refine ls 1 H <| sr 1 rfl <| sE ?_;clear H a;intro a H
 refine k1 _ _ ?_;clear k1 K1
 refine wp_seq_k fun K2 k2 => ?_
 cases hesc : escOk (⟨up, empty, pull, drag, motor, br⟩ : Esc)
 ·skip
  refine seq_list fun K3 k3 => ?_
  refine ls 1 H <| sd ((does_loadBox agg_81 sz_81 rfl S (i := 1) rfl rfl)) <| sE ?_;clear H a;intro a H
  refine list_call H rfl rfl Try.func66 rfl rfl (drv_Check up empty pull drag motor br BA bcp _ (hb.now S) hbn) ?_;clear H a
  rintro _ _ a ⟨rfl, S2⟩ H
  replace S := S.call S2;clear S2
  rw [hesc] at H; simp only [if_true, Bool.false_eq_true, if_false] at H
  refine ls 1 H <| sr 1 rfl <| sE ?_;clear H a;intro a H
  refine k3 _ _ ?_;clear k3 K3
  refine sS H fun K4 k4=>sr 2 rfl <| sE ?_;clear H a;intro a H
  refine k4 _ ?_;clear k4 K4
  refine cond_ H rfl (fun hc1 => ?_) (fun hc1 => ?_)
  ·skip
   skip
   replace H := H.keep [5] rfl
   refine sS H fun K5 k5=>sr 2 rfl <| sE ?_;clear H a;intro a H
   refine k5 _ ?_;clear k5 K5
   refine wp_ret ?_
   refine ret1 (fn := Try.f45) rfl H rfl ?_
   refine ⟨?_, (S.sel [] rfl rfl)⟩; unfold stopE; rw [if_neg (by rw [hesc]; simp)]
  skip
  exact absurd hc1 (by decide)
 refine seq_list fun K6 k6 => ?_
 refine ls 1 H <| sd ((does_loadBox agg_81 sz_81 rfl S (i := 1) rfl rfl)) <| sE ?_;clear H a;intro a H
 refine list_call H rfl rfl Try.func66 rfl rfl (drv_Check up empty pull drag motor br BA bcp _ (hb.now S) hbn) ?_;clear H a
 rintro _ _ a ⟨rfl, S2⟩ H
 replace S := S.call S2;clear S2
 rw [hesc] at H; simp only [if_true, Bool.false_eq_true, if_false] at H
 refine ls 1 H <| sr 1 rfl <| sE ?_;clear H a;intro a H
 refine k6 _ _ ?_;clear k6 K6
 refine sS H fun K7 k7=>sr 2 rfl <| sE ?_;clear H a;intro a H
 refine k7 _ ?_;clear k7 K7
 refine cond_ H rfl (fun hc2 => ?_) (fun hc2 => ?_)
 ·skip
  skip
  exact absurd hc2 (by decide)
 skip
 refine wp_skip ?_
 refine k2 _ _ ?_
 refine wp_seq_k fun K8 k8 => ?_
 rcases (show ((sp < 0 ∨ 1000 < sp) ∨ ((0 ≤ sp ∧ sp ≤ 1000) ∧ slo < 0) ∨ ((0 ≤ sp ∧ sp ≤ 1000 ∧ 0 ≤ slo) ∧ shi < slo)) ∨ ((0 ≤ sp ∧ sp ≤ 1000 ∧ 0 ≤ slo ∧ slo ≤ shi) ∧ (100000 < shi ∨ (shi ≤ 100000 ∧ sfail < 0) ∨ ((shi ≤ 100000 ∧ 0 ≤ sfail) ∧ (2 : Int) ^ br.length ≤ sfail) ∨ ((shi ≤ 100000 ∧ 0 ≤ sfail) ∧ sfail < (2 : Int) ^ br.length))) by omega) with (hs | hs | hs) | ⟨hs0, hs | hs | hs | hs⟩
 ·skip
  skip
  have hE := esc_parts hesc
  dsimp only at hE
  obtain ⟨hE1, hE2, hE3, hE4, hE5⟩ := hE
  replace H := H.keep [2, 3] rfl
  replace S := S.drew
  refine seq_wq [(0, true), (1, true), (2, false), (3, false), (4, true), (5, true), (6, true), (7, true), (8, true), (9, true), (10, true), (11, true), (12, true), (13, true), (14, true), (15, true), (16, true), (17, true), (18, true), (19, true), (20, true), (21, true), (22, true), (23, true), (24, true), (25, true), (26, true), (27, true), (28, true), (29, true), (30, true), (31, true), (32, true), (33, true), (34, true), (35, true), (36, true), (37, true), (38, true), (39, true)] (by kernel_rfl) (by kernel_rfl) (S.sel [0, 1] rfl rfl) fun K9 k9 => ?_
  refine qF H <| qd rfl (fun _ S => (does_field fo_76_0 rfl)) <| qd rfl (fun _ S => does_load one_3 rfl (boxM.rd S (i := 0) rfl rfl)) <| qK ?_;clear H a;intro a H
  refine wq_eff rfl ?_
  refine list_call H rfl rfl Try.func68 rfl rfl (drv_to _ _) ?_;clear H a
  rintro _ _ a ⟨rfl, S2⟩ H
  replace S := S.call S2;clear S2
  refine wpList_nil (And.intro (S.sel [0, 1] rfl rfl) ?_)
  refine wq_eff rfl ?_
  refine list_call H rfl rfl Try.func67 rfl rfl (drv_in_no (by omega)) ?_;clear H a
  rintro _ _ a ⟨rfl, S2⟩ H
  replace S := S.call S2;clear S2
  refine wpList_nil (And.intro (S.sel [0, 1] rfl rfl) ?_)
  refine qF H <| qr 2 rfl <| qK ?_;clear H a;intro a H
  refine wq_no H rfl rfl rfl rfl rfl ?_;clear H a;intro a H
  refine wq_no H rfl rfl rfl rfl rfl ?_;clear H a;intro a H
  refine wq_no H rfl rfl rfl rfl rfl ?_;clear H a;intro a H
  refine wq_no H rfl rfl rfl rfl rfl ?_;clear H a;intro a H
  refine qF H <| qd rfl (fun _ S => (does_pick rfl rfl rfl)) <| qr 1 rfl <| qK ?_;clear H a;intro a H
  refine wq_no H rfl rfl rfl rfl rfl ?_;clear H a;intro a H
  refine wq_no H rfl rfl rfl rfl rfl ?_;clear H a;intro a H
  refine wq_no H rfl rfl rfl rfl rfl ?_;clear H a;intro a H
  refine wq_no H rfl rfl rfl rfl rfl ?_;clear H a;intro a H
  refine wq_no H rfl rfl rfl rfl rfl ?_;clear H a;intro a H
  refine wq_no H rfl rfl rfl rfl rfl ?_;clear H a;intro a H
  refine wq_no H rfl rfl rfl rfl rfl ?_;clear H a;intro a H
  refine qF H <| qd rfl (fun _ S => (does_pick rfl rfl rfl)) <| qr 1 rfl <| qK ?_;clear H a;intro a H
  refine wq_no H rfl rfl rfl rfl rfl ?_;clear H a;intro a H
  refine wq_no H rfl rfl rfl rfl rfl ?_;clear H a;intro a H
  refine wq_no H rfl rfl rfl rfl rfl ?_;clear H a;intro a H
  refine wq_no H rfl rfl rfl rfl rfl ?_;clear H a;intro a H
  refine qF H <| qd rfl (fun _ S => (does_pick rfl rfl rfl)) <| qr 1 rfl <| qK ?_;clear H a;intro a H
  refine wq_no H rfl rfl rfl rfl rfl ?_;clear H a;intro a H
  refine wq_no H rfl rfl rfl rfl rfl ?_;clear H a;intro a H
  refine wq_no H rfl rfl rfl rfl rfl ?_;clear H a;intro a H
  refine qF H <| qd rfl (fun _ S => (does_pick rfl rfl rfl)) <| qr 1 rfl <| qK ?_;clear H a;intro a H
  refine wq_no H rfl rfl rfl rfl rfl ?_;clear H a;intro a H
  refine wq_no H rfl rfl rfl rfl rfl ?_;clear H a;intro a H
  refine wq_no H rfl rfl rfl rfl rfl ?_;clear H a;intro a H
  refine wq_no H rfl rfl rfl rfl rfl ?_;clear H a;intro a H
  refine wq_no H rfl rfl rfl rfl rfl ?_;clear H a;intro a H
  refine wq_no H rfl rfl rfl rfl rfl ?_;clear H a;intro a H
  refine wq_no H rfl rfl rfl rfl rfl ?_;clear H a;intro a H
  refine qF H <| qd rfl (fun _ S => (does_pick rfl rfl rfl)) <| qK ?_;clear H a;intro a H
  refine wq_nil ?_
  refine k9 _ _ ?_
  clear k9 K9
  refine cond_ H rfl (fun hc3 => ?_) (fun hc3 => ?_)
  ·skip
   skip
   replace H := H.keep [] rfl
   refine sS H fun K10 k10=>sr 1 rfl <| sE ?_;clear H a;intro a H
   refine k10 _ ?_;clear k10 K10
   refine wp_ret ?_
   refine ret1 (fn := Try.f45) rfl H rfl ?_
   refine ⟨?_, (S.sel [] rfl rfl)⟩; unfold stopE; rw [if_pos hesc, if_neg (by unfold stpOk; simp only [decide_eq_true_eq]; omega)]
  skip
  exact absurd hc3 (by decide)
 ·skip
  skip
  have hE := esc_parts hesc
  dsimp only at hE
  obtain ⟨hE1, hE2, hE3, hE4, hE5⟩ := hE
  replace H := H.keep [2, 3] rfl
  replace S := S.drew
  refine seq_wq [(0, true), (1, true), (2, false), (3, false), (4, true), (5, true), (6, true), (7, true), (8, true), (9, true), (10, true), (11, true), (12, true), (13, true), (14, true), (15, true), (16, true), (17, true), (18, true), (19, true), (20, true), (21, true), (22, true), (23, true), (24, true), (25, true), (26, true), (27, true), (28, true), (29, true), (30, true), (31, true), (32, true), (33, true), (34, true), (35, true), (36, true), (37, true), (38, true), (39, true)] (by kernel_rfl) (by kernel_rfl) (S.sel [0, 1] rfl rfl) fun K11 k11 => ?_
  refine qF H <| qd rfl (fun _ S => (does_field fo_76_0 rfl)) <| qd rfl (fun _ S => does_load one_3 rfl (boxM.rd S (i := 0) rfl rfl)) <| qK ?_;clear H a;intro a H
  refine wq_eff rfl ?_
  refine list_call H rfl rfl Try.func68 rfl rfl (drv_to _ _) ?_;clear H a
  rintro _ _ a ⟨rfl, S2⟩ H
  replace S := S.call S2;clear S2
  refine wpList_nil (And.intro (S.sel [0, 1] rfl rfl) ?_)
  refine wq_eff rfl ?_
  refine list_call H rfl rfl Try.func67 rfl rfl (drv_in_yes (by omega)) ?_;clear H a
  rintro _ _ a ⟨rfl, S2⟩ H
  replace S := S.call S2;clear S2
  refine wpList_nil (And.intro (S.sel [0, 1] rfl rfl) ?_)
  refine qF H <| qr 2 rfl <| qK ?_;clear H a;intro a H
  refine wq_yes H rfl rfl rfl rfl (fun _ S => (does_field fo_76_1 rfl)) ?_;clear H a;intro a H
  refine wq_yes H rfl rfl rfl rfl (fun _ S => (does_field fo_36_0 rfl)) ?_;clear H a;intro a H
  refine wq_yes H rfl rfl rfl rfl (fun _ S => does_load one_3 rfl (boxM.rd S (i := 0) rfl rfl)) ?_;clear H a;intro a H
  refine wq_yes H rfl rfl rfl rfl (fun _ S => Does.to (does_lss rfl rfl) (congrArg Value.bool (decide_eq_true (by omega)))) ?_;clear H a;intro a H
  refine qF H <| qd rfl (fun _ S => (does_or rfl rfl rfl)) <| qr 1 rfl <| qK ?_;clear H a;intro a H
  refine wq_no H rfl rfl rfl rfl rfl ?_;clear H a;intro a H
  refine wq_no H rfl rfl rfl rfl rfl ?_;clear H a;intro a H
  refine wq_no H rfl rfl rfl rfl rfl ?_;clear H a;intro a H
  refine wq_no H rfl rfl rfl rfl rfl ?_;clear H a;intro a H
  refine wq_no H rfl rfl rfl rfl rfl ?_;clear H a;intro a H
  refine wq_no H rfl rfl rfl rfl rfl ?_;clear H a;intro a H
  refine wq_no H rfl rfl rfl rfl rfl ?_;clear H a;intro a H
  refine qF H <| qd rfl (fun _ S => (does_pick rfl rfl rfl)) <| qr 1 rfl <| qK ?_;clear H a;intro a H
  refine wq_no H rfl rfl rfl rfl rfl ?_;clear H a;intro a H
  refine wq_no H rfl rfl rfl rfl rfl ?_;clear H a;intro a H
  refine wq_no H rfl rfl rfl rfl rfl ?_;clear H a;intro a H
  refine wq_no H rfl rfl rfl rfl rfl ?_;clear H a;intro a H
  refine qF H <| qd rfl (fun _ S => (does_pick rfl rfl rfl)) <| qr 1 rfl <| qK ?_;clear H a;intro a H
  refine wq_no H rfl rfl rfl rfl rfl ?_;clear H a;intro a H
  refine wq_no H rfl rfl rfl rfl rfl ?_;clear H a;intro a H
  refine wq_no H rfl rfl rfl rfl rfl ?_;clear H a;intro a H
  refine qF H <| qd rfl (fun _ S => (does_pick rfl rfl rfl)) <| qr 1 rfl <| qK ?_;clear H a;intro a H
  refine wq_no H rfl rfl rfl rfl rfl ?_;clear H a;intro a H
  refine wq_no H rfl rfl rfl rfl rfl ?_;clear H a;intro a H
  refine wq_no H rfl rfl rfl rfl rfl ?_;clear H a;intro a H
  refine wq_no H rfl rfl rfl rfl rfl ?_;clear H a;intro a H
  refine wq_no H rfl rfl rfl rfl rfl ?_;clear H a;intro a H
  refine wq_no H rfl rfl rfl rfl rfl ?_;clear H a;intro a H
  refine wq_no H rfl rfl rfl rfl rfl ?_;clear H a;intro a H
  refine qF H <| qd rfl (fun _ S => (does_pick rfl rfl rfl)) <| qK ?_;clear H a;intro a H
  refine wq_nil ?_
  refine k11 _ _ ?_
  clear k11 K11
  refine cond_ H rfl (fun hc4 => ?_) (fun hc4 => ?_)
  ·skip
   skip
   replace H := H.keep [] rfl
   refine sS H fun K12 k12=>sr 1 rfl <| sE ?_;clear H a;intro a H
   refine k12 _ ?_;clear k12 K12
   refine wp_ret ?_
   refine ret1 (fn := Try.f45) rfl H rfl ?_
   refine ⟨?_, (S.sel [] rfl rfl)⟩; unfold stopE; rw [if_pos hesc, if_neg (by unfold stpOk; simp only [decide_eq_true_eq]; omega)]
  skip
  exact absurd hc4 (by decide)
 ·skip
  skip
  have hE := esc_parts hesc
  dsimp only at hE
  obtain ⟨hE1, hE2, hE3, hE4, hE5⟩ := hE
  replace H := H.keep [2, 3] rfl
  replace S := S.drew
  refine seq_wq [(0, true), (1, true), (2, false), (3, false), (4, true), (5, true), (6, true), (7, true), (8, true), (9, true), (10, true), (11, true), (12, true), (13, true), (14, true), (15, true), (16, true), (17, true), (18, true), (19, true), (20, true), (21, true), (22, true), (23, true), (24, true), (25, true), (26, true), (27, true), (28, true), (29, true), (30, true), (31, true), (32, true), (33, true), (34, true), (35, true), (36, true), (37, true), (38, true), (39, true)] (by kernel_rfl) (by kernel_rfl) (S.sel [0, 1] rfl rfl) fun K13 k13 => ?_
  refine qF H <| qd rfl (fun _ S => (does_field fo_76_0 rfl)) <| qd rfl (fun _ S => does_load one_3 rfl (boxM.rd S (i := 0) rfl rfl)) <| qK ?_;clear H a;intro a H
  refine wq_eff rfl ?_
  refine list_call H rfl rfl Try.func68 rfl rfl (drv_to _ _) ?_;clear H a
  rintro _ _ a ⟨rfl, S2⟩ H
  replace S := S.call S2;clear S2
  refine wpList_nil (And.intro (S.sel [0, 1] rfl rfl) ?_)
  refine wq_eff rfl ?_
  refine list_call H rfl rfl Try.func67 rfl rfl (drv_in_yes (by omega)) ?_;clear H a
  rintro _ _ a ⟨rfl, S2⟩ H
  replace S := S.call S2;clear S2
  refine wpList_nil (And.intro (S.sel [0, 1] rfl rfl) ?_)
  refine qF H <| qr 2 rfl <| qK ?_;clear H a;intro a H
  refine wq_yes H rfl rfl rfl rfl (fun _ S => (does_field fo_76_1 rfl)) ?_;clear H a;intro a H
  refine wq_yes H rfl rfl rfl rfl (fun _ S => (does_field fo_36_0 rfl)) ?_;clear H a;intro a H
  refine wq_yes H rfl rfl rfl rfl (fun _ S => does_load one_3 rfl (boxM.rd S (i := 0) rfl rfl)) ?_;clear H a;intro a H
  refine wq_yes H rfl rfl rfl rfl (fun _ S => Does.to (does_lss rfl rfl) (congrArg Value.bool (decide_eq_false (by omega)))) ?_;clear H a;intro a H
  refine qF H <| qd rfl (fun _ S => (does_or rfl rfl rfl)) <| qr 1 rfl <| qK ?_;clear H a;intro a H
  refine wq_yes H rfl rfl rfl rfl (fun _ S => (does_field fo_76_1 rfl)) ?_;clear H a;intro a H
  refine wq_yes H rfl rfl rfl rfl (fun _ S => (does_field fo_36_0 rfl)) ?_;clear H a;intro a H
  refine wq_yes H rfl rfl rfl rfl (fun _ S => does_load one_3 rfl (boxM.rd S (i := 0) rfl rfl)) ?_;clear H a;intro a H
  refine wq_yes H rfl rfl rfl rfl (fun _ S => (does_field fo_76_1 rfl)) ?_;clear H a;intro a H
  refine wq_yes H rfl rfl rfl rfl (fun _ S => (does_field fo_36_1 rfl)) ?_;clear H a;intro a H
  refine wq_yes H rfl rfl rfl rfl (fun _ S => does_load one_3 rfl (boxM.rd S (i := 0) rfl rfl)) ?_;clear H a;intro a H
  refine wq_yes H rfl rfl rfl rfl (fun _ S => Does.to (does_gtr rfl rfl) (congrArg Value.bool (decide_eq_true (by omega)))) ?_;clear H a;intro a H
  refine qF H <| qd rfl (fun _ S => (does_or rfl rfl rfl)) <| qr 1 rfl <| qK ?_;clear H a;intro a H
  refine wq_no H rfl rfl rfl rfl rfl ?_;clear H a;intro a H
  refine wq_no H rfl rfl rfl rfl rfl ?_;clear H a;intro a H
  refine wq_no H rfl rfl rfl rfl rfl ?_;clear H a;intro a H
  refine wq_no H rfl rfl rfl rfl rfl ?_;clear H a;intro a H
  refine qF H <| qd rfl (fun _ S => (does_pick rfl rfl rfl)) <| qr 1 rfl <| qK ?_;clear H a;intro a H
  refine wq_no H rfl rfl rfl rfl rfl ?_;clear H a;intro a H
  refine wq_no H rfl rfl rfl rfl rfl ?_;clear H a;intro a H
  refine wq_no H rfl rfl rfl rfl rfl ?_;clear H a;intro a H
  refine qF H <| qd rfl (fun _ S => (does_pick rfl rfl rfl)) <| qr 1 rfl <| qK ?_;clear H a;intro a H
  refine wq_no H rfl rfl rfl rfl rfl ?_;clear H a;intro a H
  refine wq_no H rfl rfl rfl rfl rfl ?_;clear H a;intro a H
  refine wq_no H rfl rfl rfl rfl rfl ?_;clear H a;intro a H
  refine wq_no H rfl rfl rfl rfl rfl ?_;clear H a;intro a H
  refine wq_no H rfl rfl rfl rfl rfl ?_;clear H a;intro a H
  refine wq_no H rfl rfl rfl rfl rfl ?_;clear H a;intro a H
  refine wq_no H rfl rfl rfl rfl rfl ?_;clear H a;intro a H
  refine qF H <| qd rfl (fun _ S => (does_pick rfl rfl rfl)) <| qK ?_;clear H a;intro a H
  refine wq_nil ?_
  refine k13 _ _ ?_
  clear k13 K13
  refine cond_ H rfl (fun hc5 => ?_) (fun hc5 => ?_)
  ·skip
   skip
   replace H := H.keep [] rfl
   refine sS H fun K14 k14=>sr 1 rfl <| sE ?_;clear H a;intro a H
   refine k14 _ ?_;clear k14 K14
   refine wp_ret ?_
   refine ret1 (fn := Try.f45) rfl H rfl ?_
   refine ⟨?_, (S.sel [] rfl rfl)⟩; unfold stopE; rw [if_pos hesc, if_neg (by unfold stpOk; simp only [decide_eq_true_eq]; omega)]
  skip
  exact absurd hc5 (by decide)
 ·skip
  skip
  have hE := esc_parts hesc
  dsimp only at hE
  obtain ⟨hE1, hE2, hE3, hE4, hE5⟩ := hE
  replace H := H.keep [2, 3] rfl
  replace S := S.drew
  refine seq_wq [(0, true), (1, true), (2, false), (3, false), (4, true), (5, true), (6, true), (7, true), (8, true), (9, true), (10, true), (11, true), (12, true), (13, true), (14, true), (15, true), (16, true), (17, true), (18, true), (19, true), (20, true), (21, true), (22, true), (23, true), (24, true), (25, true), (26, true), (27, true), (28, true), (29, true), (30, true), (31, true), (32, true), (33, true), (34, true), (35, true), (36, true), (37, true), (38, true), (39, true)] (by kernel_rfl) (by kernel_rfl) (S.sel [0, 1] rfl rfl) fun K15 k15 => ?_
  refine qF H <| qd rfl (fun _ S => (does_field fo_76_0 rfl)) <| qd rfl (fun _ S => does_load one_3 rfl (boxM.rd S (i := 0) rfl rfl)) <| qK ?_;clear H a;intro a H
  refine wq_eff rfl ?_
  refine list_call H rfl rfl Try.func68 rfl rfl (drv_to _ _) ?_;clear H a
  rintro _ _ a ⟨rfl, S2⟩ H
  replace S := S.call S2;clear S2
  refine wpList_nil (And.intro (S.sel [0, 1] rfl rfl) ?_)
  refine wq_eff rfl ?_
  refine list_call H rfl rfl Try.func67 rfl rfl (drv_in_yes (by omega)) ?_;clear H a
  rintro _ _ a ⟨rfl, S2⟩ H
  replace S := S.call S2;clear S2
  refine wpList_nil (And.intro (S.sel [0, 1] rfl rfl) ?_)
  refine qF H <| qr 2 rfl <| qK ?_;clear H a;intro a H
  refine wq_yes H rfl rfl rfl rfl (fun _ S => (does_field fo_76_1 rfl)) ?_;clear H a;intro a H
  refine wq_yes H rfl rfl rfl rfl (fun _ S => (does_field fo_36_0 rfl)) ?_;clear H a;intro a H
  refine wq_yes H rfl rfl rfl rfl (fun _ S => does_load one_3 rfl (boxM.rd S (i := 0) rfl rfl)) ?_;clear H a;intro a H
  refine wq_yes H rfl rfl rfl rfl (fun _ S => Does.to (does_lss rfl rfl) (congrArg Value.bool (decide_eq_false (by omega)))) ?_;clear H a;intro a H
  refine qF H <| qd rfl (fun _ S => (does_or rfl rfl rfl)) <| qr 1 rfl <| qK ?_;clear H a;intro a H
  refine wq_yes H rfl rfl rfl rfl (fun _ S => (does_field fo_76_1 rfl)) ?_;clear H a;intro a H
  refine wq_yes H rfl rfl rfl rfl (fun _ S => (does_field fo_36_0 rfl)) ?_;clear H a;intro a H
  refine wq_yes H rfl rfl rfl rfl (fun _ S => does_load one_3 rfl (boxM.rd S (i := 0) rfl rfl)) ?_;clear H a;intro a H
  refine wq_yes H rfl rfl rfl rfl (fun _ S => (does_field fo_76_1 rfl)) ?_;clear H a;intro a H
  refine wq_yes H rfl rfl rfl rfl (fun _ S => (does_field fo_36_1 rfl)) ?_;clear H a;intro a H
  refine wq_yes H rfl rfl rfl rfl (fun _ S => does_load one_3 rfl (boxM.rd S (i := 0) rfl rfl)) ?_;clear H a;intro a H
  refine wq_yes H rfl rfl rfl rfl (fun _ S => Does.to (does_gtr rfl rfl) (congrArg Value.bool (decide_eq_false (by omega)))) ?_;clear H a;intro a H
  refine qF H <| qd rfl (fun _ S => (does_or rfl rfl rfl)) <| qr 1 rfl <| qK ?_;clear H a;intro a H
  refine wq_yes H rfl rfl rfl rfl (fun _ S => (does_field fo_76_1 rfl)) ?_;clear H a;intro a H
  refine wq_yes H rfl rfl rfl rfl (fun _ S => (does_field fo_36_1 rfl)) ?_;clear H a;intro a H
  refine wq_yes H rfl rfl rfl rfl (fun _ S => does_load one_3 rfl (boxM.rd S (i := 0) rfl rfl)) ?_;clear H a;intro a H
  refine wq_yes H rfl rfl rfl rfl (fun _ S => Does.to (does_gtr rfl rfl) (congrArg Value.bool (decide_eq_true (by omega)))) ?_;clear H a;intro a H
  refine qF H <| qd rfl (fun _ S => (does_or rfl rfl rfl)) <| qr 1 rfl <| qK ?_;clear H a;intro a H
  refine wq_no H rfl rfl rfl rfl rfl ?_;clear H a;intro a H
  refine wq_no H rfl rfl rfl rfl rfl ?_;clear H a;intro a H
  refine wq_no H rfl rfl rfl rfl rfl ?_;clear H a;intro a H
  refine qF H <| qd rfl (fun _ S => (does_pick rfl rfl rfl)) <| qr 1 rfl <| qK ?_;clear H a;intro a H
  refine wq_no H rfl rfl rfl rfl rfl ?_;clear H a;intro a H
  refine wq_no H rfl rfl rfl rfl rfl ?_;clear H a;intro a H
  refine wq_no H rfl rfl rfl rfl rfl ?_;clear H a;intro a H
  refine wq_no H rfl rfl rfl rfl rfl ?_;clear H a;intro a H
  refine wq_no H rfl rfl rfl rfl rfl ?_;clear H a;intro a H
  refine wq_no H rfl rfl rfl rfl rfl ?_;clear H a;intro a H
  refine wq_no H rfl rfl rfl rfl rfl ?_;clear H a;intro a H
  refine qF H <| qd rfl (fun _ S => (does_pick rfl rfl rfl)) <| qK ?_;clear H a;intro a H
  refine wq_nil ?_
  refine k15 _ _ ?_
  clear k15 K15
  refine cond_ H rfl (fun hc6 => ?_) (fun hc6 => ?_)
  ·skip
   skip
   replace H := H.keep [] rfl
   refine sS H fun K16 k16=>sr 1 rfl <| sE ?_;clear H a;intro a H
   refine k16 _ ?_;clear k16 K16
   refine wp_ret ?_
   refine ret1 (fn := Try.f45) rfl H rfl ?_
   refine ⟨?_, (S.sel [] rfl rfl)⟩; unfold stopE; rw [if_pos hesc, if_neg (by unfold stpOk; simp only [decide_eq_true_eq]; omega)]
  skip
  exact absurd hc6 (by decide)
 ·skip
  skip
  have hE := esc_parts hesc
  dsimp only at hE
  obtain ⟨hE1, hE2, hE3, hE4, hE5⟩ := hE
  replace H := H.keep [2, 3] rfl
  replace S := S.drew
  refine seq_wq [(0, true), (1, true), (2, false), (3, false), (4, true), (5, true), (6, true), (7, true), (8, true), (9, true), (10, true), (11, true), (12, true), (13, true), (14, true), (15, true), (16, true), (17, true), (18, true), (19, true), (20, true), (21, true), (22, true), (23, true), (24, true), (25, true), (26, true), (27, true), (28, true), (29, true), (30, true), (31, true), (32, true), (33, true), (34, true), (35, true), (36, true), (37, true), (38, true), (39, true)] (by kernel_rfl) (by kernel_rfl) (S.sel [0, 1] rfl rfl) fun K17 k17 => ?_
  refine qF H <| qd rfl (fun _ S => (does_field fo_76_0 rfl)) <| qd rfl (fun _ S => does_load one_3 rfl (boxM.rd S (i := 0) rfl rfl)) <| qK ?_;clear H a;intro a H
  refine wq_eff rfl ?_
  refine list_call H rfl rfl Try.func68 rfl rfl (drv_to _ _) ?_;clear H a
  rintro _ _ a ⟨rfl, S2⟩ H
  replace S := S.call S2;clear S2
  refine wpList_nil (And.intro (S.sel [0, 1] rfl rfl) ?_)
  refine wq_eff rfl ?_
  refine list_call H rfl rfl Try.func67 rfl rfl (drv_in_yes (by omega)) ?_;clear H a
  rintro _ _ a ⟨rfl, S2⟩ H
  replace S := S.call S2;clear S2
  refine wpList_nil (And.intro (S.sel [0, 1] rfl rfl) ?_)
  refine qF H <| qr 2 rfl <| qK ?_;clear H a;intro a H
  refine wq_yes H rfl rfl rfl rfl (fun _ S => (does_field fo_76_1 rfl)) ?_;clear H a;intro a H
  refine wq_yes H rfl rfl rfl rfl (fun _ S => (does_field fo_36_0 rfl)) ?_;clear H a;intro a H
  refine wq_yes H rfl rfl rfl rfl (fun _ S => does_load one_3 rfl (boxM.rd S (i := 0) rfl rfl)) ?_;clear H a;intro a H
  refine wq_yes H rfl rfl rfl rfl (fun _ S => Does.to (does_lss rfl rfl) (congrArg Value.bool (decide_eq_false (by omega)))) ?_;clear H a;intro a H
  refine qF H <| qd rfl (fun _ S => (does_or rfl rfl rfl)) <| qr 1 rfl <| qK ?_;clear H a;intro a H
  refine wq_yes H rfl rfl rfl rfl (fun _ S => (does_field fo_76_1 rfl)) ?_;clear H a;intro a H
  refine wq_yes H rfl rfl rfl rfl (fun _ S => (does_field fo_36_0 rfl)) ?_;clear H a;intro a H
  refine wq_yes H rfl rfl rfl rfl (fun _ S => does_load one_3 rfl (boxM.rd S (i := 0) rfl rfl)) ?_;clear H a;intro a H
  refine wq_yes H rfl rfl rfl rfl (fun _ S => (does_field fo_76_1 rfl)) ?_;clear H a;intro a H
  refine wq_yes H rfl rfl rfl rfl (fun _ S => (does_field fo_36_1 rfl)) ?_;clear H a;intro a H
  refine wq_yes H rfl rfl rfl rfl (fun _ S => does_load one_3 rfl (boxM.rd S (i := 0) rfl rfl)) ?_;clear H a;intro a H
  refine wq_yes H rfl rfl rfl rfl (fun _ S => Does.to (does_gtr rfl rfl) (congrArg Value.bool (decide_eq_false (by omega)))) ?_;clear H a;intro a H
  refine qF H <| qd rfl (fun _ S => (does_or rfl rfl rfl)) <| qr 1 rfl <| qK ?_;clear H a;intro a H
  refine wq_yes H rfl rfl rfl rfl (fun _ S => (does_field fo_76_1 rfl)) ?_;clear H a;intro a H
  refine wq_yes H rfl rfl rfl rfl (fun _ S => (does_field fo_36_1 rfl)) ?_;clear H a;intro a H
  refine wq_yes H rfl rfl rfl rfl (fun _ S => does_load one_3 rfl (boxM.rd S (i := 0) rfl rfl)) ?_;clear H a;intro a H
  refine wq_yes H rfl rfl rfl rfl (fun _ S => Does.to (does_gtr rfl rfl) (congrArg Value.bool (decide_eq_false (by omega)))) ?_;clear H a;intro a H
  refine qF H <| qd rfl (fun _ S => (does_or rfl rfl rfl)) <| qr 1 rfl <| qK ?_;clear H a;intro a H
  refine wq_yes H rfl rfl rfl rfl (fun _ S => (does_field fo_76_2 rfl)) ?_;clear H a;intro a H
  refine wq_yes H rfl rfl rfl rfl (fun _ S => does_load one_3 rfl (boxM.rd S (i := 0) rfl rfl)) ?_;clear H a;intro a H
  refine wq_yes H rfl rfl rfl rfl (fun _ S => Does.to (does_lss rfl rfl) (congrArg Value.bool (decide_eq_true (by omega)))) ?_;clear H a;intro a H
  refine qF H <| qd rfl (fun _ S => (does_or rfl rfl rfl)) <| qr 1 rfl <| qK ?_;clear H a;intro a H
  refine wq_no H rfl rfl rfl rfl rfl ?_;clear H a;intro a H
  refine wq_no H rfl rfl rfl rfl rfl ?_;clear H a;intro a H
  refine wq_no H rfl rfl rfl rfl rfl ?_;clear H a;intro a H
  refine wq_no H rfl rfl rfl rfl rfl ?_;clear H a;intro a H
  refine wq_no H rfl rfl rfl rfl rfl ?_;clear H a;intro a H
  refine wq_no H rfl rfl rfl rfl rfl ?_;clear H a;intro a H
  refine wq_no H rfl rfl rfl rfl rfl ?_;clear H a;intro a H
  refine qF H <| qd rfl (fun _ S => (does_pick rfl rfl rfl)) <| qK ?_;clear H a;intro a H
  refine wq_nil ?_
  refine k17 _ _ ?_
  clear k17 K17
  refine cond_ H rfl (fun hc7 => ?_) (fun hc7 => ?_)
  ·skip
   skip
   replace H := H.keep [] rfl
   refine sS H fun K18 k18=>sr 1 rfl <| sE ?_;clear H a;intro a H
   refine k18 _ ?_;clear k18 K18
   refine wp_ret ?_
   refine ret1 (fn := Try.f45) rfl H rfl ?_
   refine ⟨?_, (S.sel [] rfl rfl)⟩; unfold stopE; rw [if_pos hesc, if_neg (by unfold stpOk; simp only [decide_eq_true_eq]; omega)]
  skip
  exact absurd hc7 (by decide)
 ·skip
  skip
  have hE := esc_parts hesc
  dsimp only at hE
  obtain ⟨hE1, hE2, hE3, hE4, hE5⟩ := hE
  replace H := H.keep [2, 3] rfl
  replace S := S.drew
  refine seq_wq [(0, true), (1, true), (2, false), (3, false), (4, true), (5, true), (6, true), (7, true), (8, true), (9, true), (10, true), (11, true), (12, true), (13, true), (14, true), (15, true), (16, true), (17, true), (18, true), (19, true), (20, true), (21, true), (22, true), (23, true), (24, true), (25, true), (26, true), (27, true), (28, true), (29, true), (30, true), (31, true), (32, true), (33, true), (34, true), (35, true), (36, true), (37, true), (38, true), (39, true)] (by kernel_rfl) (by kernel_rfl) (S.sel [0, 1] rfl rfl) fun K19 k19 => ?_
  refine qF H <| qd rfl (fun _ S => (does_field fo_76_0 rfl)) <| qd rfl (fun _ S => does_load one_3 rfl (boxM.rd S (i := 0) rfl rfl)) <| qK ?_;clear H a;intro a H
  refine wq_eff rfl ?_
  refine list_call H rfl rfl Try.func68 rfl rfl (drv_to _ _) ?_;clear H a
  rintro _ _ a ⟨rfl, S2⟩ H
  replace S := S.call S2;clear S2
  refine wpList_nil (And.intro (S.sel [0, 1] rfl rfl) ?_)
  refine wq_eff rfl ?_
  refine list_call H rfl rfl Try.func67 rfl rfl (drv_in_yes (by omega)) ?_;clear H a
  rintro _ _ a ⟨rfl, S2⟩ H
  replace S := S.call S2;clear S2
  refine wpList_nil (And.intro (S.sel [0, 1] rfl rfl) ?_)
  refine qF H <| qr 2 rfl <| qK ?_;clear H a;intro a H
  refine wq_yes H rfl rfl rfl rfl (fun _ S => (does_field fo_76_1 rfl)) ?_;clear H a;intro a H
  refine wq_yes H rfl rfl rfl rfl (fun _ S => (does_field fo_36_0 rfl)) ?_;clear H a;intro a H
  refine wq_yes H rfl rfl rfl rfl (fun _ S => does_load one_3 rfl (boxM.rd S (i := 0) rfl rfl)) ?_;clear H a;intro a H
  refine wq_yes H rfl rfl rfl rfl (fun _ S => Does.to (does_lss rfl rfl) (congrArg Value.bool (decide_eq_false (by omega)))) ?_;clear H a;intro a H
  refine qF H <| qd rfl (fun _ S => (does_or rfl rfl rfl)) <| qr 1 rfl <| qK ?_;clear H a;intro a H
  refine wq_yes H rfl rfl rfl rfl (fun _ S => (does_field fo_76_1 rfl)) ?_;clear H a;intro a H
  refine wq_yes H rfl rfl rfl rfl (fun _ S => (does_field fo_36_0 rfl)) ?_;clear H a;intro a H
  refine wq_yes H rfl rfl rfl rfl (fun _ S => does_load one_3 rfl (boxM.rd S (i := 0) rfl rfl)) ?_;clear H a;intro a H
  refine wq_yes H rfl rfl rfl rfl (fun _ S => (does_field fo_76_1 rfl)) ?_;clear H a;intro a H
  refine wq_yes H rfl rfl rfl rfl (fun _ S => (does_field fo_36_1 rfl)) ?_;clear H a;intro a H
  refine wq_yes H rfl rfl rfl rfl (fun _ S => does_load one_3 rfl (boxM.rd S (i := 0) rfl rfl)) ?_;clear H a;intro a H
  refine wq_yes H rfl rfl rfl rfl (fun _ S => Does.to (does_gtr rfl rfl) (congrArg Value.bool (decide_eq_false (by omega)))) ?_;clear H a;intro a H
  refine qF H <| qd rfl (fun _ S => (does_or rfl rfl rfl)) <| qr 1 rfl <| qK ?_;clear H a;intro a H
  refine wq_yes H rfl rfl rfl rfl (fun _ S => (does_field fo_76_1 rfl)) ?_;clear H a;intro a H
  refine wq_yes H rfl rfl rfl rfl (fun _ S => (does_field fo_36_1 rfl)) ?_;clear H a;intro a H
  refine wq_yes H rfl rfl rfl rfl (fun _ S => does_load one_3 rfl (boxM.rd S (i := 0) rfl rfl)) ?_;clear H a;intro a H
  refine wq_yes H rfl rfl rfl rfl (fun _ S => Does.to (does_gtr rfl rfl) (congrArg Value.bool (decide_eq_false (by omega)))) ?_;clear H a;intro a H
  refine qF H <| qd rfl (fun _ S => (does_or rfl rfl rfl)) <| qr 1 rfl <| qK ?_;clear H a;intro a H
  refine wq_yes H rfl rfl rfl rfl (fun _ S => (does_field fo_76_2 rfl)) ?_;clear H a;intro a H
  refine wq_yes H rfl rfl rfl rfl (fun _ S => does_load one_3 rfl (boxM.rd S (i := 0) rfl rfl)) ?_;clear H a;intro a H
  refine wq_yes H rfl rfl rfl rfl (fun _ S => Does.to (does_lss rfl rfl) (congrArg Value.bool (decide_eq_false (by omega)))) ?_;clear H a;intro a H
  refine qF H <| qd rfl (fun _ S => (does_or rfl rfl rfl)) <| qr 1 rfl <| qK ?_;clear H a;intro a H
  refine wq_yes H rfl rfl rfl rfl (fun _ S => (does_field fo_76_2 rfl)) ?_;clear H a;intro a H
  refine wq_yes H rfl rfl rfl rfl (fun _ S => does_load one_3 rfl (boxM.rd S (i := 0) rfl rfl)) ?_;clear H a;intro a H
  refine wq_yes H rfl rfl rfl rfl (fun _ S => (does_field fo_81_5 rfl)) ?_;clear H a;intro a H
  refine wq_yes H rfl rfl rfl rfl (fun _ S => does_load one_79 rfl (boxM.rd S (i := 1) rfl rfl)) ?_;clear H a;intro a H
  refine wq_yes H rfl rfl rfl rfl (fun _ S => does_len sl_79 rfl) ?_;clear H a;intro a H
  refine wq_yes H rfl rfl rfl rfl (fun _ S => does_shl rfl rfl (by omega) (by omega) (by unfold i64ok; omega)) ?_;clear H a;intro a H
  refine wq_yes H rfl rfl rfl rfl (fun _ S => Does.to (does_geq rfl rfl) (congrArg Value.bool (decide_eq_true (by omega)))) ?_;clear H a;intro a H
  refine qF H <| qd rfl (fun _ S => (does_or rfl rfl rfl)) <| qK ?_;clear H a;intro a H
  refine wq_nil ?_
  refine k19 _ _ ?_
  clear k19 K19
  refine cond_ H rfl (fun hc8 => ?_) (fun hc8 => ?_)
  ·skip
   skip
   replace H := H.keep [] rfl
   refine sS H fun K20 k20=>sr 1 rfl <| sE ?_;clear H a;intro a H
   refine k20 _ ?_;clear k20 K20
   refine wp_ret ?_
   refine ret1 (fn := Try.f45) rfl H rfl ?_
   refine ⟨?_, (S.sel [] rfl rfl)⟩; unfold stopE; rw [if_pos hesc, if_neg (by unfold stpOk; simp only [decide_eq_true_eq]; omega)]
  skip
  exact absurd hc8 (by decide)
 skip
 have hE := esc_parts hesc
 dsimp only at hE
 obtain ⟨hE1, hE2, hE3, hE4, hE5⟩ := hE
 replace H := H.keep [2, 3] rfl
 replace S := S.drew
 refine seq_wq [(0, true), (1, true), (2, false), (3, false), (4, true), (5, true), (6, true), (7, true), (8, true), (9, true), (10, true), (11, true), (12, true), (13, true), (14, true), (15, true), (16, true), (17, true), (18, true), (19, true), (20, true), (21, true), (22, true), (23, true), (24, true), (25, true), (26, true), (27, true), (28, true), (29, true), (30, true), (31, true), (32, true), (33, true), (34, true), (35, true), (36, true), (37, true), (38, true), (39, true)] (by kernel_rfl) (by kernel_rfl) (S.sel [0, 1] rfl rfl) fun K21 k21 => ?_
 refine qF H <| qd rfl (fun _ S => (does_field fo_76_0 rfl)) <| qd rfl (fun _ S => does_load one_3 rfl (boxM.rd S (i := 0) rfl rfl)) <| qK ?_;clear H a;intro a H
 refine wq_eff rfl ?_
 refine list_call H rfl rfl Try.func68 rfl rfl (drv_to _ _) ?_;clear H a
 rintro _ _ a ⟨rfl, S2⟩ H
 replace S := S.call S2;clear S2
 refine wpList_nil (And.intro (S.sel [0, 1] rfl rfl) ?_)
 refine wq_eff rfl ?_
 refine list_call H rfl rfl Try.func67 rfl rfl (drv_in_yes (by omega)) ?_;clear H a
 rintro _ _ a ⟨rfl, S2⟩ H
 replace S := S.call S2;clear S2
 refine wpList_nil (And.intro (S.sel [0, 1] rfl rfl) ?_)
 refine qF H <| qr 2 rfl <| qK ?_;clear H a;intro a H
 refine wq_yes H rfl rfl rfl rfl (fun _ S => (does_field fo_76_1 rfl)) ?_;clear H a;intro a H
 refine wq_yes H rfl rfl rfl rfl (fun _ S => (does_field fo_36_0 rfl)) ?_;clear H a;intro a H
 refine wq_yes H rfl rfl rfl rfl (fun _ S => does_load one_3 rfl (boxM.rd S (i := 0) rfl rfl)) ?_;clear H a;intro a H
 refine wq_yes H rfl rfl rfl rfl (fun _ S => Does.to (does_lss rfl rfl) (congrArg Value.bool (decide_eq_false (by omega)))) ?_;clear H a;intro a H
 refine qF H <| qd rfl (fun _ S => (does_or rfl rfl rfl)) <| qr 1 rfl <| qK ?_;clear H a;intro a H
 refine wq_yes H rfl rfl rfl rfl (fun _ S => (does_field fo_76_1 rfl)) ?_;clear H a;intro a H
 refine wq_yes H rfl rfl rfl rfl (fun _ S => (does_field fo_36_0 rfl)) ?_;clear H a;intro a H
 refine wq_yes H rfl rfl rfl rfl (fun _ S => does_load one_3 rfl (boxM.rd S (i := 0) rfl rfl)) ?_;clear H a;intro a H
 refine wq_yes H rfl rfl rfl rfl (fun _ S => (does_field fo_76_1 rfl)) ?_;clear H a;intro a H
 refine wq_yes H rfl rfl rfl rfl (fun _ S => (does_field fo_36_1 rfl)) ?_;clear H a;intro a H
 refine wq_yes H rfl rfl rfl rfl (fun _ S => does_load one_3 rfl (boxM.rd S (i := 0) rfl rfl)) ?_;clear H a;intro a H
 refine wq_yes H rfl rfl rfl rfl (fun _ S => Does.to (does_gtr rfl rfl) (congrArg Value.bool (decide_eq_false (by omega)))) ?_;clear H a;intro a H
 refine qF H <| qd rfl (fun _ S => (does_or rfl rfl rfl)) <| qr 1 rfl <| qK ?_;clear H a;intro a H
 refine wq_yes H rfl rfl rfl rfl (fun _ S => (does_field fo_76_1 rfl)) ?_;clear H a;intro a H
 refine wq_yes H rfl rfl rfl rfl (fun _ S => (does_field fo_36_1 rfl)) ?_;clear H a;intro a H
 refine wq_yes H rfl rfl rfl rfl (fun _ S => does_load one_3 rfl (boxM.rd S (i := 0) rfl rfl)) ?_;clear H a;intro a H
 refine wq_yes H rfl rfl rfl rfl (fun _ S => Does.to (does_gtr rfl rfl) (congrArg Value.bool (decide_eq_false (by omega)))) ?_;clear H a;intro a H
 refine qF H <| qd rfl (fun _ S => (does_or rfl rfl rfl)) <| qr 1 rfl <| qK ?_;clear H a;intro a H
 refine wq_yes H rfl rfl rfl rfl (fun _ S => (does_field fo_76_2 rfl)) ?_;clear H a;intro a H
 refine wq_yes H rfl rfl rfl rfl (fun _ S => does_load one_3 rfl (boxM.rd S (i := 0) rfl rfl)) ?_;clear H a;intro a H
 refine wq_yes H rfl rfl rfl rfl (fun _ S => Does.to (does_lss rfl rfl) (congrArg Value.bool (decide_eq_false (by omega)))) ?_;clear H a;intro a H
 refine qF H <| qd rfl (fun _ S => (does_or rfl rfl rfl)) <| qr 1 rfl <| qK ?_;clear H a;intro a H
 refine wq_yes H rfl rfl rfl rfl (fun _ S => (does_field fo_76_2 rfl)) ?_;clear H a;intro a H
 refine wq_yes H rfl rfl rfl rfl (fun _ S => does_load one_3 rfl (boxM.rd S (i := 0) rfl rfl)) ?_;clear H a;intro a H
 refine wq_yes H rfl rfl rfl rfl (fun _ S => (does_field fo_81_5 rfl)) ?_;clear H a;intro a H
 refine wq_yes H rfl rfl rfl rfl (fun _ S => does_load one_79 rfl (boxM.rd S (i := 1) rfl rfl)) ?_;clear H a;intro a H
 refine wq_yes H rfl rfl rfl rfl (fun _ S => does_len sl_79 rfl) ?_;clear H a;intro a H
 refine wq_yes H rfl rfl rfl rfl (fun _ S => does_shl rfl rfl (by omega) (by omega) (by unfold i64ok; omega)) ?_;clear H a;intro a H
 refine wq_yes H rfl rfl rfl rfl (fun _ S => Does.to (does_geq rfl rfl) (congrArg Value.bool (decide_eq_false (by omega)))) ?_;clear H a;intro a H
 refine qF H <| qd rfl (fun _ S => (does_or rfl rfl rfl)) <| qK ?_;clear H a;intro a H
 refine wq_nil ?_
 refine k21 _ _ ?_
 clear k21 K21
 refine cond_ H rfl (fun hc9 => ?_) (fun hc9 => ?_)
 ·skip
  skip
  exact absurd hc9 (by decide)
 skip
 refine wp_skip ?_
 refine k8 _ _ ?_
 replace H := H.keep [] rfl
 refine sS H fun K22 k22=>sr 1 rfl <| sE ?_;clear H a;intro a H
 refine k22 _ ?_;clear k22 K22
 refine wp_ret ?_
 refine ret1 (fn := Try.f45) rfl H rfl ?_
 refine ⟨?_, (S.sel [] rfl rfl)⟩; unfold stopE; rw [if_pos hesc, if_pos (by unfold stpOk; simp only [decide_eq_true_eq]; omega)]

theorem drv_with (up : Bool) (empty pull drag motor : Int) (br : List Brake) (BA : Option Addr) (bcp : Nat) (sp slo shi sfail : Int) (mb : Nat) (v : Int) (t : Nat) (x : Int) (w : World) (F : Nat → Prop) (S : St w F [boxM mb 148 [.bool up, .int .i64 empty, .int .i64 pull, .int .i64 drag, .int .i64 motor, .slice BA br.length bcp, .int .i64 sp, .int .i64 slo, .int .i64 shi, .int .i64 sfail, .int .i64 (v), .int .i64 (t : Int)]] w) (hb : InS w F 2 BA br.length (bcell br)) (hesc : escOk (⟨up, empty, pull, drag, motor, br⟩ : Esc) = true) (hstp : stpOk (⟨up, empty, pull, drag, motor, br⟩ : Esc) (⟨sp, slo, shi, sfail⟩ : Stp) = true) (hx : slo ≤ x ∧ x ≤ shi) (ht : t ≤ 1000) (hv : -900000000000 ≤ v ∧ v ≤ 900000000000) :
    Calls Try.prog 79 [.pointer (some ⟨mb, 0, none⟩), .int .i64 x].toArray w (Ret (fun u w' => u = .int .i64 (tickI (⟨up, empty, pull, drag, motor, br⟩ : Esc) v x (gripI (⟨up, empty, pull, drag, motor, br⟩ : Esc) (⟨sp, slo, shi, sfail⟩ : Stp) (t : Int))) ∧ St w F [boxM mb 148 [.bool up, .int .i64 empty, .int .i64 pull, .int .i64 drag, .int .i64 motor, .slice BA br.length bcp, .int .i64 sp, .int .i64 slo, .int .i64 shi, .int .i64 sfail, .int .i64 (tickI (⟨up, empty, pull, drag, motor, br⟩ : Esc) v x (gripI (⟨up, empty, pull, drag, motor, br⟩ : Esc) (⟨sp, slo, shi, sfail⟩ : Stp) (t : Int))), .int .i64 ((t : Int) + 1)]] w')) := by
 have hE := esc_parts hesc
 dsimp only at hE
 obtain ⟨hE1, hE2, hE3, hE4, hE5⟩ := hE
 have hS1 := hstp; unfold stpOk at hS1; simp only [decide_eq_true_eq] at hS1
 have hgb := grip_bd (fail := sfail) (t := t) (l := br) (by unfold escOk at hesc; simp only [Bool.and_eq_true] at hesc; exact hesc.2) br.length (Nat.le_refl _)
 have hgr : 0 ≤ gripI (⟨up, empty, pull, drag, motor, br⟩ : Esc) (⟨sp, slo, shi, sfail⟩ : Stp) (t : Int) ∧ gripI (⟨up, empty, pull, drag, motor, br⟩ : Esc) (⟨sp, slo, shi, sfail⟩ : Stp) (t : Int) ≤ 30000000 := by unfold gripI; dsimp only; omega
 refine enter Try.func79 rfl Try.ntmps79 rfl (fun a H => ?_)
 skip
 refine sS H fun K1 k1=>sr 1 rfl <| sE ?_;clear H a;intro a H
 refine k1 _ ?_;clear k1 K1
 replace H := H.keep [0, 1] rfl
 replace S := S.drew
 refine seq_wt 15 (.p 0 (.p 1 (.p 2 (.p 3 (.p 5 (.p 6 (.p 7 (.p 9 (.p 10 (.b3 4 (.b2 8 (.e 11 (.e 12 (.p 13 (.p 14 (.e 15 .nil))))) 11 (.e 8 (.e 12 (.p 13 (.p 14 (.e 15 .nil)))))) 8 (.b2 4 (.e 11 (.e 12 (.p 13 (.p 14 (.e 15 .nil))))) 11 (.e 4 (.e 12 (.p 13 (.p 14 (.e 15 .nil)))))) 11 (.b2 4 (.e 8 (.e 12 (.p 13 (.p 14 (.e 15 .nil))))) 8 (.e 4 (.e 12 (.p 13 (.p 14 (.e 15 .nil)))))))))))))))) (by kernel_rfl) (by kernel_rfl) (S.sel [0] rfl rfl) fun K2 k2 => ?_
 refine wt_pure H rfl rfl (fun _ => does_move rfl) ?_;clear H a;intro a H
 refine wt_pure H rfl rfl (fun _ => does_move rfl) ?_;clear H a;intro a H
 refine wt_pure H rfl rfl (fun _ => does_nilCheck rfl) ?_;clear H a;intro a H
 refine wt_pure H rfl rfl (fun _ => (does_field fo_148_0 rfl)) ?_;clear H a;intro a H
 refine wt_pure H rfl rfl (fun _ => does_move rfl) ?_;clear H a;intro a H
 refine wt_pure H rfl rfl (fun _ => does_nilCheck rfl) ?_;clear H a;intro a H
 refine wt_pure H rfl rfl (fun _ => (does_field fo_148_2 rfl)) ?_;clear H a;intro a H
 refine wt_pure H rfl rfl (fun _ => does_move rfl) ?_;clear H a;intro a H
 refine wt_pure H rfl rfl (fun _ => does_move rfl) ?_;clear H a;intro a H
 refine wt_b3 rfl rfl rfl ?_ ?_ ?_
 ·skip
  refine ls 1 H <| sd ((does_loadBox agg_81 sz_81 rfl S (i := 0) rfl rfl)) <| sE ?_;clear H a;intro a H
  refine wpList_nil (And.intro (Or.inr (S.sel [0] rfl rfl)) ?_)
  refine wt_b2 rfl rfl ?_ ?_
  ·skip
   refine ls 1 H <| sl S 0 one_3 rfl rfl rfl <| sE ?_;clear H a;intro a H
   refine wpList_nil (And.intro (Or.inr (S.sel [0] rfl rfl)) ?_)
   refine wt_eff rfl ?_
   have S1 := (S.sel [0] rfl rfl)
   refine list_call H rfl rfl Try.func90 rfl rfl (drv_grip up empty pull drag motor br BA bcp sp slo shi sfail mb v t _ _ S1.startR (hb.nowR S1) hesc hstp) ?_;clear H a
   rintro _ _ a ⟨rfl, S2⟩ H
   replace S := (S.sel [0] rfl rfl).callR (M := [_]) S2; clear S1 S2
   refine wpList_nil (And.intro (Or.inr (S.sel [0] rfl rfl)) ?_)
   refine wt_eff rfl ?_
   refine list_call H rfl rfl Try.func89 rfl rfl (drv_tick up empty pull drag motor br BA bcp v x _ _ hesc (by omega) (by omega) (by omega)) ?_;clear H a
   rintro _ _ a ⟨rfl, S2⟩ H
   replace S := S.call S2;clear S2
   refine wpList_nil (And.intro (Or.inr (S.sel [0] rfl rfl)) ?_)
   refine wt_pure H rfl rfl (fun _ => does_nilCheck rfl) ?_;clear H a;intro a H
   refine wt_pure H rfl rfl (fun _ => (does_field fo_148_2 rfl)) ?_;clear H a;intro a H
   refine wt_eff rfl ?_
   refine list_store H S (i := 0) rfl rfl rfl rfl sz_3 rfl rfl ?_
   clear H a S;intro _ a S H
   refine wpList_nil (And.intro (Or.inl rfl) ?_)
   refine wt_nil ?_
   refine k2 _ _ ?_
   clear k2 K2
   replace H := H.keep [0] rfl
   refine seq_list fun K3 k3 => ?_
   refine ls 7 H <| sr 2 rfl <| sf fo_148_3 rfl <| sl S 0 one_3 rfl rfl rfl <| sd (does_add rfl rfl (by unfold i64ok; omega)) <| sr 1 rfl <| sf fo_148_3 rfl <| sE ?_;clear H a;intro a H
   refine list_store H S (i := 0) rfl rfl rfl rfl sz_3 rfl rfl ?_
   clear H a S;intro _ a S H
   refine k3 _ _ ?_;clear k3 K3
   replace H := H.keep [0] rfl
   refine sS H fun K4 k4=>sr 2 rfl <| sf fo_148_2 rfl <| sl S 0 one_3 rfl rfl rfl <| sr 1 rfl <| sE ?_;clear H a;intro a H
   refine k4 _ ?_;clear k4 K4
   refine wp_ret ?_
   refine ret1 (fn := Try.f79) rfl H rfl ?_
   exact ⟨rfl, (S.sel [0] rfl rfl)⟩
  ·skip
   have S1 := (S.sel [0] rfl rfl)
   refine list_call H rfl rfl Try.func90 rfl rfl (drv_grip up empty pull drag motor br BA bcp sp slo shi sfail mb v t _ _ S1.startR (hb.nowR S1) hesc hstp) ?_;clear H a
   rintro _ _ a ⟨rfl, S2⟩ H
   replace S := (S.sel [0] rfl rfl).callR (M := [_]) S2; clear S1 S2
   refine wpList_nil (And.intro (Or.inr (S.sel [0] rfl rfl)) ?_)
   refine wt_eff rfl ?_
   refine ls 1 H <| sl S 0 one_3 rfl rfl rfl <| sE ?_;clear H a;intro a H
   refine wpList_nil (And.intro (Or.inr (S.sel [0] rfl rfl)) ?_)
   refine wt_eff rfl ?_
   refine list_call H rfl rfl Try.func89 rfl rfl (drv_tick up empty pull drag motor br BA bcp v x _ _ hesc (by omega) (by omega) (by omega)) ?_;clear H a
   rintro _ _ a ⟨rfl, S2⟩ H
   replace S := S.call S2;clear S2
   refine wpList_nil (And.intro (Or.inr (S.sel [0] rfl rfl)) ?_)
   refine wt_pure H rfl rfl (fun _ => does_nilCheck rfl) ?_;clear H a;intro a H
   refine wt_pure H rfl rfl (fun _ => (does_field fo_148_2 rfl)) ?_;clear H a;intro a H
   refine wt_eff rfl ?_
   refine list_store H S (i := 0) rfl rfl rfl rfl sz_3 rfl rfl ?_
   clear H a S;intro _ a S H
   refine wpList_nil (And.intro (Or.inl rfl) ?_)
   refine wt_nil ?_
   refine k2 _ _ ?_
   clear k2 K2
   replace H := H.keep [0] rfl
   refine seq_list fun K5 k5 => ?_
   refine ls 7 H <| sr 2 rfl <| sf fo_148_3 rfl <| sl S 0 one_3 rfl rfl rfl <| sd (does_add rfl rfl (by unfold i64ok; omega)) <| sr 1 rfl <| sf fo_148_3 rfl <| sE ?_;clear H a;intro a H
   refine list_store H S (i := 0) rfl rfl rfl rfl sz_3 rfl rfl ?_
   clear H a S;intro _ a S H
   refine k5 _ _ ?_;clear k5 K5
   replace H := H.keep [0] rfl
   refine sS H fun K6 k6=>sr 2 rfl <| sf fo_148_2 rfl <| sl S 0 one_3 rfl rfl rfl <| sr 1 rfl <| sE ?_;clear H a;intro a H
   refine k6 _ ?_;clear k6 K6
   refine wp_ret ?_
   refine ret1 (fn := Try.f79) rfl H rfl ?_
   exact ⟨rfl, (S.sel [0] rfl rfl)⟩
 ·skip
  refine ls 1 H <| sl S 0 one_3 rfl rfl rfl <| sE ?_;clear H a;intro a H
  refine wpList_nil (And.intro (Or.inr (S.sel [0] rfl rfl)) ?_)
  refine wt_b2 rfl rfl ?_ ?_
  ·skip
   refine ls 1 H <| sd ((does_loadBox agg_81 sz_81 rfl S (i := 0) rfl rfl)) <| sE ?_;clear H a;intro a H
   refine wpList_nil (And.intro (Or.inr (S.sel [0] rfl rfl)) ?_)
   refine wt_eff rfl ?_
   have S1 := (S.sel [0] rfl rfl)
   refine list_call H rfl rfl Try.func90 rfl rfl (drv_grip up empty pull drag motor br BA bcp sp slo shi sfail mb v t _ _ S1.startR (hb.nowR S1) hesc hstp) ?_;clear H a
   rintro _ _ a ⟨rfl, S2⟩ H
   replace S := (S.sel [0] rfl rfl).callR (M := [_]) S2; clear S1 S2
   refine wpList_nil (And.intro (Or.inr (S.sel [0] rfl rfl)) ?_)
   refine wt_eff rfl ?_
   refine list_call H rfl rfl Try.func89 rfl rfl (drv_tick up empty pull drag motor br BA bcp v x _ _ hesc (by omega) (by omega) (by omega)) ?_;clear H a
   rintro _ _ a ⟨rfl, S2⟩ H
   replace S := S.call S2;clear S2
   refine wpList_nil (And.intro (Or.inr (S.sel [0] rfl rfl)) ?_)
   refine wt_pure H rfl rfl (fun _ => does_nilCheck rfl) ?_;clear H a;intro a H
   refine wt_pure H rfl rfl (fun _ => (does_field fo_148_2 rfl)) ?_;clear H a;intro a H
   refine wt_eff rfl ?_
   refine list_store H S (i := 0) rfl rfl rfl rfl sz_3 rfl rfl ?_
   clear H a S;intro _ a S H
   refine wpList_nil (And.intro (Or.inl rfl) ?_)
   refine wt_nil ?_
   refine k2 _ _ ?_
   clear k2 K2
   replace H := H.keep [0] rfl
   refine seq_list fun K7 k7 => ?_
   refine ls 7 H <| sr 2 rfl <| sf fo_148_3 rfl <| sl S 0 one_3 rfl rfl rfl <| sd (does_add rfl rfl (by unfold i64ok; omega)) <| sr 1 rfl <| sf fo_148_3 rfl <| sE ?_;clear H a;intro a H
   refine list_store H S (i := 0) rfl rfl rfl rfl sz_3 rfl rfl ?_
   clear H a S;intro _ a S H
   refine k7 _ _ ?_;clear k7 K7
   replace H := H.keep [0] rfl
   refine sS H fun K8 k8=>sr 2 rfl <| sf fo_148_2 rfl <| sl S 0 one_3 rfl rfl rfl <| sr 1 rfl <| sE ?_;clear H a;intro a H
   refine k8 _ ?_;clear k8 K8
   refine wp_ret ?_
   refine ret1 (fn := Try.f79) rfl H rfl ?_
   exact ⟨rfl, (S.sel [0] rfl rfl)⟩
  ·skip
   have S1 := (S.sel [0] rfl rfl)
   refine list_call H rfl rfl Try.func90 rfl rfl (drv_grip up empty pull drag motor br BA bcp sp slo shi sfail mb v t _ _ S1.startR (hb.nowR S1) hesc hstp) ?_;clear H a
   rintro _ _ a ⟨rfl, S2⟩ H
   replace S := (S.sel [0] rfl rfl).callR (M := [_]) S2; clear S1 S2
   refine wpList_nil (And.intro (Or.inr (S.sel [0] rfl rfl)) ?_)
   refine wt_eff rfl ?_
   refine ls 1 H <| sd ((does_loadBox agg_81 sz_81 rfl S (i := 0) rfl rfl)) <| sE ?_;clear H a;intro a H
   refine wpList_nil (And.intro (Or.inr (S.sel [0] rfl rfl)) ?_)
   refine wt_eff rfl ?_
   refine list_call H rfl rfl Try.func89 rfl rfl (drv_tick up empty pull drag motor br BA bcp v x _ _ hesc (by omega) (by omega) (by omega)) ?_;clear H a
   rintro _ _ a ⟨rfl, S2⟩ H
   replace S := S.call S2;clear S2
   refine wpList_nil (And.intro (Or.inr (S.sel [0] rfl rfl)) ?_)
   refine wt_pure H rfl rfl (fun _ => does_nilCheck rfl) ?_;clear H a;intro a H
   refine wt_pure H rfl rfl (fun _ => (does_field fo_148_2 rfl)) ?_;clear H a;intro a H
   refine wt_eff rfl ?_
   refine list_store H S (i := 0) rfl rfl rfl rfl sz_3 rfl rfl ?_
   clear H a S;intro _ a S H
   refine wpList_nil (And.intro (Or.inl rfl) ?_)
   refine wt_nil ?_
   refine k2 _ _ ?_
   clear k2 K2
   replace H := H.keep [0] rfl
   refine seq_list fun K9 k9 => ?_
   refine ls 7 H <| sr 2 rfl <| sf fo_148_3 rfl <| sl S 0 one_3 rfl rfl rfl <| sd (does_add rfl rfl (by unfold i64ok; omega)) <| sr 1 rfl <| sf fo_148_3 rfl <| sE ?_;clear H a;intro a H
   refine list_store H S (i := 0) rfl rfl rfl rfl sz_3 rfl rfl ?_
   clear H a S;intro _ a S H
   refine k9 _ _ ?_;clear k9 K9
   replace H := H.keep [0] rfl
   refine sS H fun K10 k10=>sr 2 rfl <| sf fo_148_2 rfl <| sl S 0 one_3 rfl rfl rfl <| sr 1 rfl <| sE ?_;clear H a;intro a H
   refine k10 _ ?_;clear k10 K10
   refine wp_ret ?_
   refine ret1 (fn := Try.f79) rfl H rfl ?_
   exact ⟨rfl, (S.sel [0] rfl rfl)⟩
 ·skip
  have S1 := (S.sel [0] rfl rfl)
  refine list_call H rfl rfl Try.func90 rfl rfl (drv_grip up empty pull drag motor br BA bcp sp slo shi sfail mb v t _ _ S1.startR (hb.nowR S1) hesc hstp) ?_;clear H a
  rintro _ _ a ⟨rfl, S2⟩ H
  replace S := (S.sel [0] rfl rfl).callR (M := [_]) S2; clear S1 S2
  refine wpList_nil (And.intro (Or.inr (S.sel [0] rfl rfl)) ?_)
  refine wt_b2 rfl rfl ?_ ?_
  ·skip
   refine ls 1 H <| sd ((does_loadBox agg_81 sz_81 rfl S (i := 0) rfl rfl)) <| sE ?_;clear H a;intro a H
   refine wpList_nil (And.intro (Or.inr (S.sel [0] rfl rfl)) ?_)
   refine wt_eff rfl ?_
   refine ls 1 H <| sl S 0 one_3 rfl rfl rfl <| sE ?_;clear H a;intro a H
   refine wpList_nil (And.intro (Or.inr (S.sel [0] rfl rfl)) ?_)
   refine wt_eff rfl ?_
   refine list_call H rfl rfl Try.func89 rfl rfl (drv_tick up empty pull drag motor br BA bcp v x _ _ hesc (by omega) (by omega) (by omega)) ?_;clear H a
   rintro _ _ a ⟨rfl, S2⟩ H
   replace S := S.call S2;clear S2
   refine wpList_nil (And.intro (Or.inr (S.sel [0] rfl rfl)) ?_)
   refine wt_pure H rfl rfl (fun _ => does_nilCheck rfl) ?_;clear H a;intro a H
   refine wt_pure H rfl rfl (fun _ => (does_field fo_148_2 rfl)) ?_;clear H a;intro a H
   refine wt_eff rfl ?_
   refine list_store H S (i := 0) rfl rfl rfl rfl sz_3 rfl rfl ?_
   clear H a S;intro _ a S H
   refine wpList_nil (And.intro (Or.inl rfl) ?_)
   refine wt_nil ?_
   refine k2 _ _ ?_
   clear k2 K2
   replace H := H.keep [0] rfl
   refine seq_list fun K11 k11 => ?_
   refine ls 7 H <| sr 2 rfl <| sf fo_148_3 rfl <| sl S 0 one_3 rfl rfl rfl <| sd (does_add rfl rfl (by unfold i64ok; omega)) <| sr 1 rfl <| sf fo_148_3 rfl <| sE ?_;clear H a;intro a H
   refine list_store H S (i := 0) rfl rfl rfl rfl sz_3 rfl rfl ?_
   clear H a S;intro _ a S H
   refine k11 _ _ ?_;clear k11 K11
   replace H := H.keep [0] rfl
   refine sS H fun K12 k12=>sr 2 rfl <| sf fo_148_2 rfl <| sl S 0 one_3 rfl rfl rfl <| sr 1 rfl <| sE ?_;clear H a;intro a H
   refine k12 _ ?_;clear k12 K12
   refine wp_ret ?_
   refine ret1 (fn := Try.f79) rfl H rfl ?_
   exact ⟨rfl, (S.sel [0] rfl rfl)⟩
  ·skip
   refine ls 1 H <| sl S 0 one_3 rfl rfl rfl <| sE ?_;clear H a;intro a H
   refine wpList_nil (And.intro (Or.inr (S.sel [0] rfl rfl)) ?_)
   refine wt_eff rfl ?_
   refine ls 1 H <| sd ((does_loadBox agg_81 sz_81 rfl S (i := 0) rfl rfl)) <| sE ?_;clear H a;intro a H
   refine wpList_nil (And.intro (Or.inr (S.sel [0] rfl rfl)) ?_)
   refine wt_eff rfl ?_
   refine list_call H rfl rfl Try.func89 rfl rfl (drv_tick up empty pull drag motor br BA bcp v x _ _ hesc (by omega) (by omega) (by omega)) ?_;clear H a
   rintro _ _ a ⟨rfl, S2⟩ H
   replace S := S.call S2;clear S2
   refine wpList_nil (And.intro (Or.inr (S.sel [0] rfl rfl)) ?_)
   refine wt_pure H rfl rfl (fun _ => does_nilCheck rfl) ?_;clear H a;intro a H
   refine wt_pure H rfl rfl (fun _ => (does_field fo_148_2 rfl)) ?_;clear H a;intro a H
   refine wt_eff rfl ?_
   refine list_store H S (i := 0) rfl rfl rfl rfl sz_3 rfl rfl ?_
   clear H a S;intro _ a S H
   refine wpList_nil (And.intro (Or.inl rfl) ?_)
   refine wt_nil ?_
   refine k2 _ _ ?_
   clear k2 K2
   replace H := H.keep [0] rfl
   refine seq_list fun K13 k13 => ?_
   refine ls 7 H <| sr 2 rfl <| sf fo_148_3 rfl <| sl S 0 one_3 rfl rfl rfl <| sd (does_add rfl rfl (by unfold i64ok; omega)) <| sr 1 rfl <| sf fo_148_3 rfl <| sE ?_;clear H a;intro a H
   refine list_store H S (i := 0) rfl rfl rfl rfl sz_3 rfl rfl ?_
   clear H a S;intro _ a S H
   refine k13 _ _ ?_;clear k13 K13
   replace H := H.keep [0] rfl
   refine sS H fun K14 k14=>sr 2 rfl <| sf fo_148_2 rfl <| sl S 0 one_3 rfl rfl rfl <| sr 1 rfl <| sE ?_;clear H a;intro a H
   refine k14 _ ?_;clear k14 K14
   refine wp_ret ?_
   refine ret1 (fn := Try.f79) rfl H rfl ?_
   exact ⟨rfl, (S.sel [0] rfl rfl)⟩

end Go.Proofs.Ytdepakimbagonaa
