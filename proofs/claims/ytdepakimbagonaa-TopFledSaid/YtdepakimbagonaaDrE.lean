/- DrE. Printed by gen.py. -/
import Derived.Test.YtdepakimbagonaaDrD
namespace Go.Proofs.Ytdepakimbagonaa
open Go.RowKit
set_option linter.unusedVariables false
set_option linter.unusedSimpArgs false
set_option maxRecDepth 100000
set_option maxHeartbeats 4000000


theorem dist_err {e : Esc} {s : Stp} (h : ¬ stopE e s = 0) : distI e s = (0, 0, stopE e s) := by unfold distI; exact if_pos h
theorem dist_long {e : Esc} {s : Stp} (h : stopE e s = 0) (h2 : (goI e s true 100 s.speed 0).2 = false) : distI e s = (0, 0, 12) := by
  unfold distI
  rw [if_neg (by omega), if_neg (by rw [h2]; simp)]
theorem dist_ok {e : Esc} {s : Stp} (h : stopE e s = 0) (h2 : (goI e s true 100 s.speed 0).2 = true) : distI e s = ((goI e s false 100 s.speed 0).1, (goI e s true 100 s.speed 0).1, 0) := by
  unfold distI
  rw [if_neg (by omega), if_pos h2]


theorem drv_Distance (up : Bool) (empty pull drag motor : Int) (br : List Brake) (BA : Option Addr) (bcp : Nat) (sp slo shi sfail : Int) (w : World) (hb : InS w noF 2 BA br.length (bcell br)) (hbn : br.length ≤ 9223372036854775807) :
    Calls Try.prog 24 [.agg [.bool up, .int .i64 empty, .int .i64 pull, .int .i64 drag, .int .i64 motor, .slice BA br.length bcp].toArray, .agg [.int .i64 sp, .int .i64 slo, .int .i64 shi, .int .i64 sfail].toArray].toArray w (Ret (fun u w' => ∃ tl th : Int, u = .tuple #[.agg [.int .i64 (distI (⟨up, empty, pull, drag, motor, br⟩ : Esc) (⟨sp, slo, shi, sfail⟩ : Stp)).1, .int .i64 (distI (⟨up, empty, pull, drag, motor, br⟩ : Esc) (⟨sp, slo, shi, sfail⟩ : Stp)).2.1].toArray, .agg [.int .i64 tl, .int .i64 th].toArray, .int .i64 (distI (⟨up, empty, pull, drag, motor, br⟩ : Esc) (⟨sp, slo, shi, sfail⟩ : Stp)).2.2] ∧ St w noF [] w')) := by
 refine enter Try.func24 rfl Try.ntmps24 rfl (fun a H => ?_)
 have S := St.start w
 refine seq_list fun K1 k1 => ?_
 refine list_box H rfl S rfl rfl ?_;clear H a S;intro b2 _ a hb2 hbw2 S H
 refine list_box H rfl S rfl rfl ?_;clear H a S;intro b3 _ a hb3 hbw3 S H
 refine list_alloc H rfl S ze_36 ?_;clear H a S;intro b4 _ a hb4 hbw4 S H
 refine list_alloc H rfl S ze_36 ?_;clear H a S;intro b5 _ a hb5 hbw5 S H
 refine ls 1 H <| sr 1 rfl <| sE ?_;clear H a;intro a H
 refine k1 _ _ ?_;clear k1 K1
 refine wp_seq_k fun K2 k2 => ?_
 refine seq_list fun K3 k3 => ?_
 refine ls 2 H <| sd ((does_loadBox agg_81 sz_81 rfl S (i := 3) rfl rfl)) <| sd ((does_loadBox agg_76 sz_76 rfl S (i := 2) rfl rfl)) <| sE ?_;clear H a;intro a H
 refine list_call H rfl rfl Try.func45 rfl rfl (drv_checkStop up empty pull drag motor br BA bcp sp slo shi sfail _ (hb.now S) hbn) ?_;clear H a
 rintro _ _ a ⟨rfl, S2⟩ H
 replace S := S.call S2;clear S2
 refine ls 1 H <| sr 1 rfl <| sE ?_;clear H a;intro a H
 refine k3 _ _ ?_;clear k3 K3
 replace H := H.keep [2, 3, 4, 5, 6] rfl
 refine sS H fun K4 k4=>sr 2 rfl <| sE ?_;clear H a;intro a H
 refine k4 _ ?_;clear k4 K4
 refine condN H rfl (fun hc1 => ?_) (fun hc1 => ?_)
 ·skip
  have hce := hc1
  replace S := S.drew
  refine seq_wt 999999 (.p 2 (.b2 0 (.b2 1 (.e 3 (.e 4 (.p 5 .nil))) 3 (.e 1 (.e 4 (.p 5 .nil)))) 1 (.e 0 (.e 3 (.e 4 (.p 5 .nil)))))) (by kernel_rfl) (by kernel_rfl) (S.sel [2, 3] rfl rfl) fun K5 k5 => ?_
  refine wt_pure H rfl rfl (fun _ => does_move rfl) ?_;clear H a;intro a H
  refine wt_b2 rfl rfl ?_ ?_
  ·skip
   refine ls 1 H <| sd ((does_loadBox agg_36 sz_36 rfl S (i := 1) rfl rfl)) <| sE ?_;clear H a;intro a H
   refine wpList_nil (And.intro (Or.inr (S.sel [2, 3] rfl rfl)) ?_)
   refine wt_b2 rfl rfl ?_ ?_
   ·skip
    refine ls 1 H <| sd ((does_loadBox agg_36 sz_36 rfl S (i := 0) rfl rfl)) <| sE ?_;clear H a;intro a H
    refine wpList_nil (And.intro (Or.inr (S.sel [2, 3] rfl rfl)) ?_)
    refine wt_eff rfl ?_
    refine list_store H S (i := 1) rfl rfl rfl rfl sz_36 rfl rfl ?_
    clear H a S;intro _ a S H
    refine wpList_nil (And.intro (Or.inr (S.sel [2, 3] rfl rfl)) ?_)
    refine wt_eff rfl ?_
    refine list_store H S (i := 0) rfl rfl rfl rfl sz_36 rfl rfl ?_
    clear H a S;intro _ a S H
    refine wpList_nil (And.intro (Or.inr (S.sel [2, 3] rfl rfl)) ?_)
    refine wt_pure H rfl rfl (fun _ => does_assign rfl) ?_;clear H a;intro a H
    refine wt_nil ?_
    refine k5 _ _ ?_
    clear k5 K5
    refine wp_ret ?_
    refine retAA1 (fn := Try.f24) rfl H rfl rfl agg_36 (by exact sz_36) (boxAgg S (i := 1) rfl) agg_36 (by exact sz_36) (boxAgg S (i := 0) rfl) rfl ?_
    first | (rw [dist_err hce]; exact ⟨_, _, rfl, (S.sel [] rfl rfl)⟩) | (rw [dist_long hce (by simpa using hcf)]; exact ⟨_, _, rfl, (S.sel [] rfl rfl)⟩) | (rw [dist_ok hce (by simpa using hcf)]; exact ⟨_, _, rfl, (S.sel [] rfl rfl)⟩)
   ·skip
    refine list_store H S (i := 1) rfl rfl rfl rfl sz_36 rfl rfl ?_
    clear H a S;intro _ a S H
    refine wpList_nil (And.intro (Or.inr (S.sel [2, 3] rfl rfl)) ?_)
    refine wt_eff rfl ?_
    refine ls 1 H <| sd ((does_loadBox agg_36 sz_36 rfl S (i := 0) rfl rfl)) <| sE ?_;clear H a;intro a H
    refine wpList_nil (And.intro (Or.inr (S.sel [2, 3] rfl rfl)) ?_)
    refine wt_eff rfl ?_
    refine list_store H S (i := 0) rfl rfl rfl rfl sz_36 rfl rfl ?_
    clear H a S;intro _ a S H
    refine wpList_nil (And.intro (Or.inr (S.sel [2, 3] rfl rfl)) ?_)
    refine wt_pure H rfl rfl (fun _ => does_assign rfl) ?_;clear H a;intro a H
    refine wt_nil ?_
    refine k5 _ _ ?_
    clear k5 K5
    refine wp_ret ?_
    refine retAA1 (fn := Try.f24) rfl H rfl rfl agg_36 (by exact sz_36) (boxAgg S (i := 1) rfl) agg_36 (by exact sz_36) (boxAgg S (i := 0) rfl) rfl ?_
    first | (rw [dist_err hce]; exact ⟨_, _, rfl, (S.sel [] rfl rfl)⟩) | (rw [dist_long hce (by simpa using hcf)]; exact ⟨_, _, rfl, (S.sel [] rfl rfl)⟩) | (rw [dist_ok hce (by simpa using hcf)]; exact ⟨_, _, rfl, (S.sel [] rfl rfl)⟩)
  ·skip
   refine ls 1 H <| sd ((does_loadBox agg_36 sz_36 rfl S (i := 0) rfl rfl)) <| sE ?_;clear H a;intro a H
   refine wpList_nil (And.intro (Or.inr (S.sel [2, 3] rfl rfl)) ?_)
   refine wt_eff rfl ?_
   refine ls 1 H <| sd ((does_loadBox agg_36 sz_36 rfl S (i := 1) rfl rfl)) <| sE ?_;clear H a;intro a H
   refine wpList_nil (And.intro (Or.inr (S.sel [2, 3] rfl rfl)) ?_)
   refine wt_eff rfl ?_
   refine list_store H S (i := 1) rfl rfl rfl rfl sz_36 rfl rfl ?_
   clear H a S;intro _ a S H
   refine wpList_nil (And.intro (Or.inr (S.sel [2, 3] rfl rfl)) ?_)
   refine wt_eff rfl ?_
   refine list_store H S (i := 0) rfl rfl rfl rfl sz_36 rfl rfl ?_
   clear H a S;intro _ a S H
   refine wpList_nil (And.intro (Or.inr (S.sel [2, 3] rfl rfl)) ?_)
   refine wt_pure H rfl rfl (fun _ => does_assign rfl) ?_;clear H a;intro a H
   refine wt_nil ?_
   refine k5 _ _ ?_
   clear k5 K5
   refine wp_ret ?_
   refine retAA1 (fn := Try.f24) rfl H rfl rfl agg_36 (by exact sz_36) (boxAgg S (i := 1) rfl) agg_36 (by exact sz_36) (boxAgg S (i := 0) rfl) rfl ?_
   first | (rw [dist_err hce]; exact ⟨_, _, rfl, (S.sel [] rfl rfl)⟩) | (rw [dist_long hce (by simpa using hcf)]; exact ⟨_, _, rfl, (S.sel [] rfl rfl)⟩) | (rw [dist_ok hce (by simpa using hcf)]; exact ⟨_, _, rfl, (S.sel [] rfl rfl)⟩)
 have hce := hc1
 refine wp_skip ?_
 refine k2 _ _ ?_
 have SR := (S.sel [0, 1, 2, 3] rfl rfl)
 refine meet_sr (X := (Nat × Nat) × (Option Addr × Nat × Nat) × (Option Addr × Nat × Nat)) [4, 5] H rfl (fun ⟨⟨b7, b8⟩, ⟨A7, n7, c7⟩, A8, n8, c8⟩ => [(7, .pointer (some ⟨b7, 0, none⟩)), (8, .pointer (some ⟨b8, 0, none⟩))]) (fun ⟨⟨b7, b8⟩, ⟨A7, n7, c7⟩, A8, n8, c8⟩ => [boxM b7 120 [.int .i64 (goI (⟨up, empty, pull, drag, motor, br⟩ : Esc) (⟨sp, slo, shi, sfail⟩ : Stp) true 100 sp 0).1, .slice A7 n7 c7, .bool (goI (⟨up, empty, pull, drag, motor, br⟩ : Esc) (⟨sp, slo, shi, sfail⟩ : Stp) true 100 sp 0).2], boxM b8 120 [.int .i64 (goI (⟨up, empty, pull, drag, motor, br⟩ : Esc) (⟨sp, slo, shi, sfail⟩ : Stp) false 100 sp 0).1, .slice A8 n8 c8, .bool (goI (⟨up, empty, pull, drag, motor, br⟩ : Esc) (⟨sp, slo, shi, sfail⟩ : Stp) false 100 sp 0).2]]) (fun ⟨⟨b7, b8⟩, ⟨A7, n7, c7⟩, A8, n8, c8⟩ => True) SR (fun K6 k6 => ?_) ?_
 ·skip
  obtain ⟨hesc, hstp⟩ := stop_ok hce
  replace H := H.keep [2, 3, 4, 5] rfl
  replace S := S.drew
  refine one_wt 999999 (.q 0 (.q 1 (.q 3 (.q 4 (.b3 2 (.b3 5 (.b2 6 (.e 7 (.e 8 (.e 9 .nil))) 7 (.e 6 (.e 8 (.e 9 .nil)))) 6 (.b2 5 (.e 7 (.e 8 (.e 9 .nil))) 7 (.e 5 (.e 8 (.e 9 .nil)))) 7 (.b2 5 (.e 6 (.e 8 (.e 9 .nil))) 6 (.e 5 (.e 8 (.e 9 .nil))))) 6 (.b2 2 (.b2 5 (.e 7 (.e 8 (.e 9 .nil))) 7 (.e 5 (.e 8 (.e 9 .nil)))) 7 (.e 2 (.e 5 (.e 8 (.e 9 .nil))))) 7 (.b2 2 (.b2 5 (.e 6 (.e 8 (.e 9 .nil))) 6 (.e 5 (.e 8 (.e 9 .nil)))) 6 (.e 2 (.e 5 (.e 8 (.e 9 .nil)))))))))) (by kernel_rfl) (by kernel_rfl) (S.sel [0, 1, 2, 3] rfl rfl) ?_
  refine wt_does H rfl rfl (fun _ S => (does_loadBox agg_81 sz_81 rfl S (i := 3) rfl rfl)) ?_;clear H a;intro a H
  refine wt_does H rfl rfl (fun _ S => (does_loadBox agg_76 sz_76 rfl S (i := 2) rfl rfl)) ?_;clear H a;intro a H
  refine wt_does H rfl rfl (fun _ S => (does_loadBox agg_81 sz_81 rfl S (i := 3) rfl rfl)) ?_;clear H a;intro a H
  refine wt_does H rfl rfl (fun _ S => (does_loadBox agg_76 sz_76 rfl S (i := 2) rfl rfl)) ?_;clear H a;intro a H
  refine wt_b3 rfl rfl rfl ?_ ?_ ?_
  ·skip
   refine list_call H rfl rfl Try.func46 rfl rfl (drv_run up empty pull drag motor br BA bcp sp slo shi sfail true _ (hb.now S) hbn hesc hstp) ?_;clear H a
   rintro _ _ a ⟨A7, n7, c7, f7, rfl, S2⟩ H
   replace S := S.call S2;clear S2
   refine wpList_nil (And.intro (Or.inr (S.sel [1, 2, 3, 4] rfl rfl)) ?_)
   refine wt_b3 rfl rfl rfl ?_ ?_ ?_
   ·skip
    refine list_call H rfl rfl Try.func46 rfl rfl (drv_run up empty pull drag motor br BA bcp sp slo shi sfail false _ (hb.now S) hbn hesc hstp) ?_;clear H a
    rintro _ _ a ⟨A8, n8, c8, f8, rfl, S2⟩ H
    replace S := S.call S2;clear S2
    refine wpList_nil (And.intro (Or.inr (S.sel [2, 3, 4, 5] rfl rfl)) ?_)
    refine wt_b2 rfl rfl ?_ ?_
    ·skip
     refine list_alloc H rfl S ze_120 ?_;clear H a S;intro b7 _ a hb7 hbw7 S H
     refine wpList_nil (And.intro (Or.inr (S.sel [3, 4, 5, 6] rfl rfl)) ?_)
     refine wt_eff rfl ?_
     refine list_alloc H rfl S ze_120 ?_;clear H a S;intro b8 _ a hb8 hbw8 S H
     refine wpList_nil (And.intro (Or.inr (S.sel [4, 5, 6, 7] rfl rfl)) ?_)
     refine wt_eff rfl ?_
     refine list_store H S (i := 1) rfl rfl rfl rfl sz_120 rfl rfl ?_
     clear H a S;intro _ a S H
     refine wpList_nil (And.intro (Or.inr (S.sel [4, 5, 6, 7] rfl rfl)) ?_)
     refine wt_eff rfl ?_
     refine list_store H S (i := 0) rfl rfl rfl rfl sz_120 rfl rfl ?_
     clear H a S;intro _ a S H
     refine wpList_nil (And.intro (Or.inr (S.sel [4, 5, 6, 7] rfl rfl)) ?_)
     refine wt_nil ?_
     exact k6 ((b7, b8), (_, _, _), _, _, _) a _ (trivial) (S.sel [1, 0, 4, 5, 6, 7] rfl rfl) (H.keep [7, 8, 4, 5] rfl)
    ·skip
     refine list_alloc H rfl S ze_120 ?_;clear H a S;intro b8 _ a hb8 hbw8 S H
     refine wpList_nil (And.intro (Or.inr (S.sel [3, 4, 5, 6] rfl rfl)) ?_)
     refine wt_eff rfl ?_
     refine list_alloc H rfl S ze_120 ?_;clear H a S;intro b7 _ a hb7 hbw7 S H
     refine wpList_nil (And.intro (Or.inr (S.sel [4, 5, 6, 7] rfl rfl)) ?_)
     refine wt_eff rfl ?_
     refine list_store H S (i := 0) rfl rfl rfl rfl sz_120 rfl rfl ?_
     clear H a S;intro _ a S H
     refine wpList_nil (And.intro (Or.inr (S.sel [4, 5, 6, 7] rfl rfl)) ?_)
     refine wt_eff rfl ?_
     refine list_store H S (i := 1) rfl rfl rfl rfl sz_120 rfl rfl ?_
     clear H a S;intro _ a S H
     refine wpList_nil (And.intro (Or.inr (S.sel [4, 5, 6, 7] rfl rfl)) ?_)
     refine wt_nil ?_
     exact k6 ((b7, b8), (_, _, _), _, _, _) a _ (trivial) (S.sel [0, 1, 4, 5, 6, 7] rfl rfl) (H.keep [7, 8, 4, 5] rfl)
   ·skip
    refine list_alloc H rfl S ze_120 ?_;clear H a S;intro b7 _ a hb7 hbw7 S H
    refine wpList_nil (And.intro (Or.inr (S.sel [2, 3, 4, 5] rfl rfl)) ?_)
    refine wt_b2 rfl rfl ?_ ?_
    ·skip
     refine list_call H rfl rfl Try.func46 rfl rfl (drv_run up empty pull drag motor br BA bcp sp slo shi sfail false _ (hb.now S) hbn hesc hstp) ?_;clear H a
     rintro _ _ a ⟨A8, n8, c8, f8, rfl, S2⟩ H
     replace S := S.call S2;clear S2
     refine wpList_nil (And.intro (Or.inr (S.sel [3, 4, 5, 6] rfl rfl)) ?_)
     refine wt_eff rfl ?_
     refine list_alloc H rfl S ze_120 ?_;clear H a S;intro b8 _ a hb8 hbw8 S H
     refine wpList_nil (And.intro (Or.inr (S.sel [4, 5, 6, 7] rfl rfl)) ?_)
     refine wt_eff rfl ?_
     refine list_store H S (i := 2) rfl rfl rfl rfl sz_120 rfl rfl ?_
     clear H a S;intro _ a S H
     refine wpList_nil (And.intro (Or.inr (S.sel [4, 5, 6, 7] rfl rfl)) ?_)
     refine wt_eff rfl ?_
     refine list_store H S (i := 0) rfl rfl rfl rfl sz_120 rfl rfl ?_
     clear H a S;intro _ a S H
     refine wpList_nil (And.intro (Or.inr (S.sel [4, 5, 6, 7] rfl rfl)) ?_)
     refine wt_nil ?_
     exact k6 ((b7, b8), (_, _, _), _, _, _) a _ (trivial) (S.sel [2, 0, 4, 5, 6, 7] rfl rfl) (H.keep [7, 8, 4, 5] rfl)
    ·skip
     refine list_alloc H rfl S ze_120 ?_;clear H a S;intro b8 _ a hb8 hbw8 S H
     refine wpList_nil (And.intro (Or.inr (S.sel [3, 4, 5, 6] rfl rfl)) ?_)
     refine wt_eff rfl ?_
     refine list_call H rfl rfl Try.func46 rfl rfl (drv_run up empty pull drag motor br BA bcp sp slo shi sfail false _ (hb.now S) hbn hesc hstp) ?_;clear H a
     rintro _ _ a ⟨A8, n8, c8, f8, rfl, S2⟩ H
     replace S := S.call S2;clear S2
     refine wpList_nil (And.intro (Or.inr (S.sel [4, 5, 6, 7] rfl rfl)) ?_)
     refine wt_eff rfl ?_
     refine list_store H S (i := 2) rfl rfl rfl rfl sz_120 rfl rfl ?_
     clear H a S;intro _ a S H
     refine wpList_nil (And.intro (Or.inr (S.sel [4, 5, 6, 7] rfl rfl)) ?_)
     refine wt_eff rfl ?_
     refine list_store H S (i := 1) rfl rfl rfl rfl sz_120 rfl rfl ?_
     clear H a S;intro _ a S H
     refine wpList_nil (And.intro (Or.inr (S.sel [4, 5, 6, 7] rfl rfl)) ?_)
     refine wt_nil ?_
     exact k6 ((b7, b8), (_, _, _), _, _, _) a _ (trivial) (S.sel [2, 1, 4, 5, 6, 7] rfl rfl) (H.keep [7, 8, 4, 5] rfl)
   ·skip
    refine list_alloc H rfl S ze_120 ?_;clear H a S;intro b8 _ a hb8 hbw8 S H
    refine wpList_nil (And.intro (Or.inr (S.sel [2, 3, 4, 5] rfl rfl)) ?_)
    refine wt_b2 rfl rfl ?_ ?_
    ·skip
     refine list_call H rfl rfl Try.func46 rfl rfl (drv_run up empty pull drag motor br BA bcp sp slo shi sfail false _ (hb.now S) hbn hesc hstp) ?_;clear H a
     rintro _ _ a ⟨A8, n8, c8, f8, rfl, S2⟩ H
     replace S := S.call S2;clear S2
     refine wpList_nil (And.intro (Or.inr (S.sel [3, 4, 5, 6] rfl rfl)) ?_)
     refine wt_eff rfl ?_
     refine list_alloc H rfl S ze_120 ?_;clear H a S;intro b7 _ a hb7 hbw7 S H
     refine wpList_nil (And.intro (Or.inr (S.sel [4, 5, 6, 7] rfl rfl)) ?_)
     refine wt_eff rfl ?_
     refine list_store H S (i := 0) rfl rfl rfl rfl sz_120 rfl rfl ?_
     clear H a S;intro _ a S H
     refine wpList_nil (And.intro (Or.inr (S.sel [4, 5, 6, 7] rfl rfl)) ?_)
     refine wt_eff rfl ?_
     refine list_store H S (i := 2) rfl rfl rfl rfl sz_120 rfl rfl ?_
     clear H a S;intro _ a S H
     refine wpList_nil (And.intro (Or.inr (S.sel [4, 5, 6, 7] rfl rfl)) ?_)
     refine wt_nil ?_
     exact k6 ((b7, b8), (_, _, _), _, _, _) a _ (trivial) (S.sel [0, 2, 4, 5, 6, 7] rfl rfl) (H.keep [7, 8, 4, 5] rfl)
    ·skip
     refine list_alloc H rfl S ze_120 ?_;clear H a S;intro b7 _ a hb7 hbw7 S H
     refine wpList_nil (And.intro (Or.inr (S.sel [3, 4, 5, 6] rfl rfl)) ?_)
     refine wt_eff rfl ?_
     refine list_call H rfl rfl Try.func46 rfl rfl (drv_run up empty pull drag motor br BA bcp sp slo shi sfail false _ (hb.now S) hbn hesc hstp) ?_;clear H a
     rintro _ _ a ⟨A8, n8, c8, f8, rfl, S2⟩ H
     replace S := S.call S2;clear S2
     refine wpList_nil (And.intro (Or.inr (S.sel [4, 5, 6, 7] rfl rfl)) ?_)
     refine wt_eff rfl ?_
     refine list_store H S (i := 1) rfl rfl rfl rfl sz_120 rfl rfl ?_
     clear H a S;intro _ a S H
     refine wpList_nil (And.intro (Or.inr (S.sel [4, 5, 6, 7] rfl rfl)) ?_)
     refine wt_eff rfl ?_
     refine list_store H S (i := 2) rfl rfl rfl rfl sz_120 rfl rfl ?_
     clear H a S;intro _ a S H
     refine wpList_nil (And.intro (Or.inr (S.sel [4, 5, 6, 7] rfl rfl)) ?_)
     refine wt_nil ?_
     exact k6 ((b7, b8), (_, _, _), _, _, _) a _ (trivial) (S.sel [1, 2, 4, 5, 6, 7] rfl rfl) (H.keep [7, 8, 4, 5] rfl)
  ·skip
   refine list_alloc H rfl S ze_120 ?_;clear H a S;intro b7 _ a hb7 hbw7 S H
   refine wpList_nil (And.intro (Or.inr (S.sel [1, 2, 3, 4] rfl rfl)) ?_)
   refine wt_b2 rfl rfl ?_ ?_
   ·skip
    refine list_call H rfl rfl Try.func46 rfl rfl (drv_run up empty pull drag motor br BA bcp sp slo shi sfail true _ (hb.now S) hbn hesc hstp) ?_;clear H a
    rintro _ _ a ⟨A7, n7, c7, f7, rfl, S2⟩ H
    replace S := S.call S2;clear S2
    refine wpList_nil (And.intro (Or.inr (S.sel [2, 3, 4, 5] rfl rfl)) ?_)
    refine wt_b2 rfl rfl ?_ ?_
    ·skip
     refine list_call H rfl rfl Try.func46 rfl rfl (drv_run up empty pull drag motor br BA bcp sp slo shi sfail false _ (hb.now S) hbn hesc hstp) ?_;clear H a
     rintro _ _ a ⟨A8, n8, c8, f8, rfl, S2⟩ H
     replace S := S.call S2;clear S2
     refine wpList_nil (And.intro (Or.inr (S.sel [3, 4, 5, 6] rfl rfl)) ?_)
     refine wt_eff rfl ?_
     refine list_alloc H rfl S ze_120 ?_;clear H a S;intro b8 _ a hb8 hbw8 S H
     refine wpList_nil (And.intro (Or.inr (S.sel [4, 5, 6, 7] rfl rfl)) ?_)
     refine wt_eff rfl ?_
     refine list_store H S (i := 3) rfl rfl rfl rfl sz_120 rfl rfl ?_
     clear H a S;intro _ a S H
     refine wpList_nil (And.intro (Or.inr (S.sel [4, 5, 6, 7] rfl rfl)) ?_)
     refine wt_eff rfl ?_
     refine list_store H S (i := 0) rfl rfl rfl rfl sz_120 rfl rfl ?_
     clear H a S;intro _ a S H
     refine wpList_nil (And.intro (Or.inr (S.sel [4, 5, 6, 7] rfl rfl)) ?_)
     refine wt_nil ?_
     exact k6 ((b7, b8), (_, _, _), _, _, _) a _ (trivial) (S.sel [3, 0, 4, 5, 6, 7] rfl rfl) (H.keep [7, 8, 4, 5] rfl)
    ·skip
     refine list_alloc H rfl S ze_120 ?_;clear H a S;intro b8 _ a hb8 hbw8 S H
     refine wpList_nil (And.intro (Or.inr (S.sel [3, 4, 5, 6] rfl rfl)) ?_)
     refine wt_eff rfl ?_
     refine list_call H rfl rfl Try.func46 rfl rfl (drv_run up empty pull drag motor br BA bcp sp slo shi sfail false _ (hb.now S) hbn hesc hstp) ?_;clear H a
     rintro _ _ a ⟨A8, n8, c8, f8, rfl, S2⟩ H
     replace S := S.call S2;clear S2
     refine wpList_nil (And.intro (Or.inr (S.sel [4, 5, 6, 7] rfl rfl)) ?_)
     refine wt_eff rfl ?_
     refine list_store H S (i := 3) rfl rfl rfl rfl sz_120 rfl rfl ?_
     clear H a S;intro _ a S H
     refine wpList_nil (And.intro (Or.inr (S.sel [4, 5, 6, 7] rfl rfl)) ?_)
     refine wt_eff rfl ?_
     refine list_store H S (i := 1) rfl rfl rfl rfl sz_120 rfl rfl ?_
     clear H a S;intro _ a S H
     refine wpList_nil (And.intro (Or.inr (S.sel [4, 5, 6, 7] rfl rfl)) ?_)
     refine wt_nil ?_
     exact k6 ((b7, b8), (_, _, _), _, _, _) a _ (trivial) (S.sel [3, 1, 4, 5, 6, 7] rfl rfl) (H.keep [7, 8, 4, 5] rfl)
   ·skip
    refine list_alloc H rfl S ze_120 ?_;clear H a S;intro b8 _ a hb8 hbw8 S H
    refine wpList_nil (And.intro (Or.inr (S.sel [2, 3, 4, 5] rfl rfl)) ?_)
    refine wt_eff rfl ?_
    refine list_call H rfl rfl Try.func46 rfl rfl (drv_run up empty pull drag motor br BA bcp sp slo shi sfail true _ (hb.now S) hbn hesc hstp) ?_;clear H a
    rintro _ _ a ⟨A7, n7, c7, f7, rfl, S2⟩ H
    replace S := S.call S2;clear S2
    refine wpList_nil (And.intro (Or.inr (S.sel [3, 4, 5, 6] rfl rfl)) ?_)
    refine wt_eff rfl ?_
    refine list_call H rfl rfl Try.func46 rfl rfl (drv_run up empty pull drag motor br BA bcp sp slo shi sfail false _ (hb.now S) hbn hesc hstp) ?_;clear H a
    rintro _ _ a ⟨A8, n8, c8, f8, rfl, S2⟩ H
    replace S := S.call S2;clear S2
    refine wpList_nil (And.intro (Or.inr (S.sel [4, 5, 6, 7] rfl rfl)) ?_)
    refine wt_eff rfl ?_
    refine list_store H S (i := 3) rfl rfl rfl rfl sz_120 rfl rfl ?_
    clear H a S;intro _ a S H
    refine wpList_nil (And.intro (Or.inr (S.sel [4, 5, 6, 7] rfl rfl)) ?_)
    refine wt_eff rfl ?_
    refine list_store H S (i := 2) rfl rfl rfl rfl sz_120 rfl rfl ?_
    clear H a S;intro _ a S H
    refine wpList_nil (And.intro (Or.inr (S.sel [4, 5, 6, 7] rfl rfl)) ?_)
    refine wt_nil ?_
    exact k6 ((b7, b8), (_, _, _), _, _, _) a _ (trivial) (S.sel [3, 2, 4, 5, 6, 7] rfl rfl) (H.keep [7, 8, 4, 5] rfl)
  ·skip
   refine list_alloc H rfl S ze_120 ?_;clear H a S;intro b8 _ a hb8 hbw8 S H
   refine wpList_nil (And.intro (Or.inr (S.sel [1, 2, 3, 4] rfl rfl)) ?_)
   refine wt_b2 rfl rfl ?_ ?_
   ·skip
    refine list_call H rfl rfl Try.func46 rfl rfl (drv_run up empty pull drag motor br BA bcp sp slo shi sfail true _ (hb.now S) hbn hesc hstp) ?_;clear H a
    rintro _ _ a ⟨A7, n7, c7, f7, rfl, S2⟩ H
    replace S := S.call S2;clear S2
    refine wpList_nil (And.intro (Or.inr (S.sel [2, 3, 4, 5] rfl rfl)) ?_)
    refine wt_b2 rfl rfl ?_ ?_
    ·skip
     refine list_call H rfl rfl Try.func46 rfl rfl (drv_run up empty pull drag motor br BA bcp sp slo shi sfail false _ (hb.now S) hbn hesc hstp) ?_;clear H a
     rintro _ _ a ⟨A8, n8, c8, f8, rfl, S2⟩ H
     replace S := S.call S2;clear S2
     refine wpList_nil (And.intro (Or.inr (S.sel [3, 4, 5, 6] rfl rfl)) ?_)
     refine wt_eff rfl ?_
     refine list_alloc H rfl S ze_120 ?_;clear H a S;intro b7 _ a hb7 hbw7 S H
     refine wpList_nil (And.intro (Or.inr (S.sel [4, 5, 6, 7] rfl rfl)) ?_)
     refine wt_eff rfl ?_
     refine list_store H S (i := 0) rfl rfl rfl rfl sz_120 rfl rfl ?_
     clear H a S;intro _ a S H
     refine wpList_nil (And.intro (Or.inr (S.sel [4, 5, 6, 7] rfl rfl)) ?_)
     refine wt_eff rfl ?_
     refine list_store H S (i := 3) rfl rfl rfl rfl sz_120 rfl rfl ?_
     clear H a S;intro _ a S H
     refine wpList_nil (And.intro (Or.inr (S.sel [4, 5, 6, 7] rfl rfl)) ?_)
     refine wt_nil ?_
     exact k6 ((b7, b8), (_, _, _), _, _, _) a _ (trivial) (S.sel [0, 3, 4, 5, 6, 7] rfl rfl) (H.keep [7, 8, 4, 5] rfl)
    ·skip
     refine list_alloc H rfl S ze_120 ?_;clear H a S;intro b7 _ a hb7 hbw7 S H
     refine wpList_nil (And.intro (Or.inr (S.sel [3, 4, 5, 6] rfl rfl)) ?_)
     refine wt_eff rfl ?_
     refine list_call H rfl rfl Try.func46 rfl rfl (drv_run up empty pull drag motor br BA bcp sp slo shi sfail false _ (hb.now S) hbn hesc hstp) ?_;clear H a
     rintro _ _ a ⟨A8, n8, c8, f8, rfl, S2⟩ H
     replace S := S.call S2;clear S2
     refine wpList_nil (And.intro (Or.inr (S.sel [4, 5, 6, 7] rfl rfl)) ?_)
     refine wt_eff rfl ?_
     refine list_store H S (i := 1) rfl rfl rfl rfl sz_120 rfl rfl ?_
     clear H a S;intro _ a S H
     refine wpList_nil (And.intro (Or.inr (S.sel [4, 5, 6, 7] rfl rfl)) ?_)
     refine wt_eff rfl ?_
     refine list_store H S (i := 3) rfl rfl rfl rfl sz_120 rfl rfl ?_
     clear H a S;intro _ a S H
     refine wpList_nil (And.intro (Or.inr (S.sel [4, 5, 6, 7] rfl rfl)) ?_)
     refine wt_nil ?_
     exact k6 ((b7, b8), (_, _, _), _, _, _) a _ (trivial) (S.sel [1, 3, 4, 5, 6, 7] rfl rfl) (H.keep [7, 8, 4, 5] rfl)
   ·skip
    refine list_alloc H rfl S ze_120 ?_;clear H a S;intro b7 _ a hb7 hbw7 S H
    refine wpList_nil (And.intro (Or.inr (S.sel [2, 3, 4, 5] rfl rfl)) ?_)
    refine wt_eff rfl ?_
    refine list_call H rfl rfl Try.func46 rfl rfl (drv_run up empty pull drag motor br BA bcp sp slo shi sfail true _ (hb.now S) hbn hesc hstp) ?_;clear H a
    rintro _ _ a ⟨A7, n7, c7, f7, rfl, S2⟩ H
    replace S := S.call S2;clear S2
    refine wpList_nil (And.intro (Or.inr (S.sel [3, 4, 5, 6] rfl rfl)) ?_)
    refine wt_eff rfl ?_
    refine list_call H rfl rfl Try.func46 rfl rfl (drv_run up empty pull drag motor br BA bcp sp slo shi sfail false _ (hb.now S) hbn hesc hstp) ?_;clear H a
    rintro _ _ a ⟨A8, n8, c8, f8, rfl, S2⟩ H
    replace S := S.call S2;clear S2
    refine wpList_nil (And.intro (Or.inr (S.sel [4, 5, 6, 7] rfl rfl)) ?_)
    refine wt_eff rfl ?_
    refine list_store H S (i := 2) rfl rfl rfl rfl sz_120 rfl rfl ?_
    clear H a S;intro _ a S H
    refine wpList_nil (And.intro (Or.inr (S.sel [4, 5, 6, 7] rfl rfl)) ?_)
    refine wt_eff rfl ?_
    refine list_store H S (i := 3) rfl rfl rfl rfl sz_120 rfl rfl ?_
    clear H a S;intro _ a S H
    refine wpList_nil (And.intro (Or.inr (S.sel [4, 5, 6, 7] rfl rfl)) ?_)
    refine wt_nil ?_
    exact k6 ((b7, b8), (_, _, _), _, _, _) a _ (trivial) (S.sel [2, 3, 4, 5, 6, 7] rfl rfl) (H.keep [7, 8, 4, 5] rfl)
 clear SR H S a
 intro xm a wm hp S H
 obtain ⟨⟨b7, b8⟩, ⟨A7, n7, c7⟩, A8, n8, c8⟩ := xm
 refine wp_seq_k fun K8 k8 => ?_
 replace H := H.keep [4, 5, 7, 8] rfl
 refine sS H fun K9 k9=>sf fo_120_2 rfl <| sl S 0 one_4 rfl rfl rfl <| sr 1 rfl <| sE ?_;clear H a;intro a H
 refine k9 _ ?_;clear k9 K9
 refine cond_ H rfl (fun hc2 => ?_) (fun hc2 => ?_)
 ·skip
  try simp only [o1,o2,o3,o4,o5,o6,o7,o8,o9,oa] at hc2
  have hcf := hc2
  replace S := S.drew
  refine seq_wt 999999 (.b2 0 (.b2 1 (.e 2 (.e 3 (.p 4 .nil))) 2 (.e 1 (.e 3 (.p 4 .nil)))) 1 (.e 0 (.e 2 (.e 3 (.p 4 .nil))))) (by kernel_rfl) (by kernel_rfl) (S.sel [0, 1, 4, 5] rfl rfl) fun K10 k10 => ?_
  refine wt_b2 rfl rfl ?_ ?_
  ·skip
   refine ls 1 H <| sd ((does_loadBox agg_36 sz_36 rfl S (i := 3) rfl rfl)) <| sE ?_;clear H a;intro a H
   refine wpList_nil (And.intro (Or.inr (S.sel [0, 1, 4, 5] rfl rfl)) ?_)
   refine wt_b2 rfl rfl ?_ ?_
   ·skip
    refine ls 1 H <| sd ((does_loadBox agg_36 sz_36 rfl S (i := 2) rfl rfl)) <| sE ?_;clear H a;intro a H
    refine wpList_nil (And.intro (Or.inr (S.sel [0, 1, 4, 5] rfl rfl)) ?_)
    refine wt_eff rfl ?_
    refine list_store H S (i := 3) rfl rfl rfl rfl sz_36 rfl rfl ?_
    clear H a S;intro _ a S H
    refine wpList_nil (And.intro (Or.inr (S.sel [0, 1, 4, 5] rfl rfl)) ?_)
    refine wt_eff rfl ?_
    refine list_store H S (i := 2) rfl rfl rfl rfl sz_36 rfl rfl ?_
    clear H a S;intro _ a S H
    refine wpList_nil (And.intro (Or.inr (S.sel [0, 1, 4, 5] rfl rfl)) ?_)
    refine wt_pure H rfl rfl (fun _ => does_assign rfl) ?_;clear H a;intro a H
    refine wt_nil ?_
    refine k10 _ _ ?_
    clear k10 K10
    refine wp_ret ?_
    refine retAA1 (fn := Try.f24) rfl H rfl rfl agg_36 (by exact sz_36) (boxAgg S (i := 3) rfl) agg_36 (by exact sz_36) (boxAgg S (i := 2) rfl) rfl ?_
    first | (rw [dist_err hce]; exact ⟨_, _, rfl, (S.sel [] rfl rfl)⟩) | (rw [dist_long hce (by simpa using hcf)]; exact ⟨_, _, rfl, (S.sel [] rfl rfl)⟩) | (rw [dist_ok hce (by simpa using hcf)]; exact ⟨_, _, rfl, (S.sel [] rfl rfl)⟩)
   ·skip
    refine list_store H S (i := 3) rfl rfl rfl rfl sz_36 rfl rfl ?_
    clear H a S;intro _ a S H
    refine wpList_nil (And.intro (Or.inr (S.sel [0, 1, 4, 5] rfl rfl)) ?_)
    refine wt_eff rfl ?_
    refine ls 1 H <| sd ((does_loadBox agg_36 sz_36 rfl S (i := 2) rfl rfl)) <| sE ?_;clear H a;intro a H
    refine wpList_nil (And.intro (Or.inr (S.sel [0, 1, 4, 5] rfl rfl)) ?_)
    refine wt_eff rfl ?_
    refine list_store H S (i := 2) rfl rfl rfl rfl sz_36 rfl rfl ?_
    clear H a S;intro _ a S H
    refine wpList_nil (And.intro (Or.inr (S.sel [0, 1, 4, 5] rfl rfl)) ?_)
    refine wt_pure H rfl rfl (fun _ => does_assign rfl) ?_;clear H a;intro a H
    refine wt_nil ?_
    refine k10 _ _ ?_
    clear k10 K10
    refine wp_ret ?_
    refine retAA1 (fn := Try.f24) rfl H rfl rfl agg_36 (by exact sz_36) (boxAgg S (i := 3) rfl) agg_36 (by exact sz_36) (boxAgg S (i := 2) rfl) rfl ?_
    first | (rw [dist_err hce]; exact ⟨_, _, rfl, (S.sel [] rfl rfl)⟩) | (rw [dist_long hce (by simpa using hcf)]; exact ⟨_, _, rfl, (S.sel [] rfl rfl)⟩) | (rw [dist_ok hce (by simpa using hcf)]; exact ⟨_, _, rfl, (S.sel [] rfl rfl)⟩)
  ·skip
   refine ls 1 H <| sd ((does_loadBox agg_36 sz_36 rfl S (i := 2) rfl rfl)) <| sE ?_;clear H a;intro a H
   refine wpList_nil (And.intro (Or.inr (S.sel [0, 1, 4, 5] rfl rfl)) ?_)
   refine wt_eff rfl ?_
   refine ls 1 H <| sd ((does_loadBox agg_36 sz_36 rfl S (i := 3) rfl rfl)) <| sE ?_;clear H a;intro a H
   refine wpList_nil (And.intro (Or.inr (S.sel [0, 1, 4, 5] rfl rfl)) ?_)
   refine wt_eff rfl ?_
   refine list_store H S (i := 3) rfl rfl rfl rfl sz_36 rfl rfl ?_
   clear H a S;intro _ a S H
   refine wpList_nil (And.intro (Or.inr (S.sel [0, 1, 4, 5] rfl rfl)) ?_)
   refine wt_eff rfl ?_
   refine list_store H S (i := 2) rfl rfl rfl rfl sz_36 rfl rfl ?_
   clear H a S;intro _ a S H
   refine wpList_nil (And.intro (Or.inr (S.sel [0, 1, 4, 5] rfl rfl)) ?_)
   refine wt_pure H rfl rfl (fun _ => does_assign rfl) ?_;clear H a;intro a H
   refine wt_nil ?_
   refine k10 _ _ ?_
   clear k10 K10
   refine wp_ret ?_
   refine retAA1 (fn := Try.f24) rfl H rfl rfl agg_36 (by exact sz_36) (boxAgg S (i := 3) rfl) agg_36 (by exact sz_36) (boxAgg S (i := 2) rfl) rfl ?_
   first | (rw [dist_err hce]; exact ⟨_, _, rfl, (S.sel [] rfl rfl)⟩) | (rw [dist_long hce (by simpa using hcf)]; exact ⟨_, _, rfl, (S.sel [] rfl rfl)⟩) | (rw [dist_ok hce (by simpa using hcf)]; exact ⟨_, _, rfl, (S.sel [] rfl rfl)⟩)
 try simp only [o1,o2,o3,o4,o5,o6,o7,o8,o9,oa] at hc2
 have hcf := hc2
 refine wp_skip ?_
 refine k8 _ _ ?_
 replace H := H.keep [4, 5, 7, 8] rfl
 replace S := S.drew
 refine seq_wt 999999 (.q 0 (.q 1 (.q 2 (.q 3 (.q 4 (.q 5 (.q 6 (.q 7 (.q 8 (.q 9 (.q 10 (.q 11 (.e 12 (.e 13 (.q 14 .nil))))))))))))))) (by kernel_rfl) (by kernel_rfl) (S.sel [0, 1, 4, 5] rfl rfl) fun K11 k11 => ?_
 refine wt_does H rfl rfl (fun _ S => (does_field fo_120_0 rfl)) ?_;clear H a;intro a H
 refine wt_does H rfl rfl (fun _ S => does_load one_3 rfl (boxM.rd S (i := 1) rfl rfl)) ?_;clear H a;intro a H
 refine wt_does H rfl rfl (fun _ S => (does_field fo_120_0 rfl)) ?_;clear H a;intro a H
 refine wt_does H rfl rfl (fun _ S => does_load one_3 rfl (boxM.rd S (i := 0) rfl rfl)) ?_;clear H a;intro a H
 refine wt_does H rfl rfl (fun _ S => does_build bt_36 rfl rfl) ?_;clear H a;intro a H
 refine wt_does H rfl rfl (fun _ S => (does_field fo_120_1 rfl)) ?_;clear H a;intro a H
 refine wt_does H rfl rfl (fun _ S => does_load one_25 rfl (boxM.rd S (i := 1) rfl rfl)) ?_;clear H a;intro a H
 refine wt_does H rfl rfl (fun _ S => does_len sl_25 rfl) ?_;clear H a;intro a H
 refine wt_does H rfl rfl (fun _ S => (does_field fo_120_1 rfl)) ?_;clear H a;intro a H
 refine wt_does H rfl rfl (fun _ S => does_load one_25 rfl (boxM.rd S (i := 0) rfl rfl)) ?_;clear H a;intro a H
 refine wt_does H rfl rfl (fun _ S => does_len sl_25 rfl) ?_;clear H a;intro a H
 refine wt_does H rfl rfl (fun _ S => does_build bt_36 rfl rfl) ?_;clear H a;intro a H
 refine wt_eff rfl ?_
 refine list_store H S (i := 3) rfl rfl rfl rfl sz_36 rfl rfl ?_
 clear H a S;intro _ a S H
 refine wpList_nil (And.intro (Or.inr (S.sel [0, 1, 4, 5] rfl rfl)) ?_)
 refine wt_eff rfl ?_
 refine list_store H S (i := 2) rfl rfl rfl rfl sz_36 rfl rfl ?_
 clear H a S;intro _ a S H
 refine wpList_nil (And.intro (Or.inr (S.sel [0, 1, 4, 5] rfl rfl)) ?_)
 refine wt_does H rfl rfl (fun _ S => does_assign rfl) ?_;clear H a;intro a H
 refine wt_nil ?_
 refine k11 _ _ ?_
 clear k11 K11
 refine wp_ret ?_
 refine retAA1 (fn := Try.f24) rfl H rfl rfl agg_36 (by exact sz_36) (boxAgg S (i := 3) rfl) agg_36 (by exact sz_36) (boxAgg S (i := 2) rfl) rfl ?_
 first | (rw [dist_err hce]; exact ⟨_, _, rfl, (S.sel [] rfl rfl)⟩) | (rw [dist_long hce (by simpa using hcf)]; exact ⟨_, _, rfl, (S.sel [] rfl rfl)⟩) | (rw [dist_ok hce (by simpa using hcf)]; exact ⟨_, _, rfl, (S.sel [] rfl rfl)⟩)

end Go.Proofs.Ytdepakimbagonaa
