/- DrD. Printed by gen.py. -/
import Derived.Test.YtdepakimbagonaaDrC
namespace Go.Proofs.Ytdepakimbagonaa
open Go.RowKit
set_option linter.unusedVariables false
set_option linter.unusedSimpArgs false
set_option maxRecDepth 100000
set_option maxHeartbeats 4000000


theorem drv_extreme (up : Bool) (empty pull drag motor : Int) (br : List Brake) (BA : Option Addr) (bcp : Nat) (sp slo shi sfail : Int) (mb : Nat) (v : Int) (t : Nat) (most : Bool) (w : World) (F : Nat → Prop) (S : St w F [boxM mb 148 [.bool up, .int .i64 empty, .int .i64 pull, .int .i64 drag, .int .i64 motor, .slice BA br.length bcp, .int .i64 sp, .int .i64 slo, .int .i64 shi, .int .i64 sfail, .int .i64 (v), .int .i64 (t : Int)]] w) (hb : InS w F 2 BA br.length (bcell br)) (hesc : escOk (⟨up, empty, pull, drag, motor, br⟩ : Esc) = true) (hstp : stpOk (⟨up, empty, pull, drag, motor, br⟩ : Esc) (⟨sp, slo, shi, sfail⟩ : Stp) = true) (ht : t ≤ 1000) (hv : -900000000000 ≤ v ∧ v ≤ 900000000000) :
    Calls Try.prog 69 [.pointer (some ⟨mb, 0, none⟩), .bool most].toArray w (Ret (fun u w' => ∃ n : Int, u = .int .i64 n ∧ St w F [boxM mb 148 [.bool up, .int .i64 empty, .int .i64 pull, .int .i64 drag, .int .i64 motor, .slice BA br.length bcp, .int .i64 sp, .int .i64 slo, .int .i64 shi, .int .i64 sfail, .int .i64 (extI (⟨up, empty, pull, drag, motor, br⟩ : Esc) (⟨sp, slo, shi, sfail⟩ : Stp) most v (t : Int)), .int .i64 ((t : Int) + 1)]] w')) := by
 have hE := esc_parts hesc
 dsimp only at hE
 obtain ⟨hE1, hE2, hE3, hE4, hE5⟩ := hE
 have hS1 := hstp; unfold stpOk at hS1; simp only [decide_eq_true_eq] at hS1
 refine enter Try.func69 rfl Try.ntmps69 rfl (fun a H => ?_)
 skip
 refine sS H fun K1 k1=>sr 1 rfl <| sE ?_;clear H a;intro a H
 refine k1 _ ?_;clear k1 K1
 replace H := H.keep [0, 1] rfl
 replace S := S.drew
 refine seq_wt 999999 (.q 0 (.q 1 (.q 2 (.q 3 (.q 4 (.q 5 (.b2 6 (.e 7 (.e 8 (.e 9 .nil))) 7 (.e 6 (.e 8 (.e 9 .nil)))))))))) (by kernel_rfl) (by kernel_rfl) (S.sel [0] rfl rfl) fun K2 k2 => ?_
 refine wt_does H rfl rfl (fun _ S => does_move rfl) ?_;clear H a;intro a H
 refine wt_does H rfl rfl (fun _ S => does_nilCheck rfl) ?_;clear H a;intro a H
 refine wt_does H rfl rfl (fun _ S => (does_loadBox agg_148 sz_148 rfl S (i := 0) rfl rfl)) ?_;clear H a;intro a H
 refine wt_does H rfl rfl (fun _ S => does_move rfl) ?_;clear H a;intro a H
 refine wt_does H rfl rfl (fun _ S => does_nilCheck rfl) ?_;clear H a;intro a H
 refine wt_does H rfl rfl (fun _ S => (does_loadBox agg_148 sz_148 rfl S (i := 0) rfl rfl)) ?_;clear H a;intro a H
 refine wt_b2 rfl rfl ?_ ?_
 ·skip
  refine list_alloc H rfl S ze_148 ?_;clear H a S;intro b5 _ a hb5 hbw5 S H
  refine wpList_nil (And.intro (Or.inr (S.sel [1] rfl rfl)) ?_)
  refine wt_eff rfl ?_
  refine list_alloc H rfl S ze_148 ?_;clear H a S;intro b6 _ a hb6 hbw6 S H
  refine wpList_nil (And.intro (Or.inr (S.sel [2] rfl rfl)) ?_)
  refine wt_eff rfl ?_
  refine list_store H S (i := 1) rfl rfl rfl rfl sz_148 rfl rfl ?_
  clear H a S;intro _ a S H
  refine wpList_nil (And.intro (Or.inr (S.sel [2] rfl rfl)) ?_)
  refine wt_eff rfl ?_
  refine list_store H S (i := 0) rfl rfl rfl rfl sz_148 rfl rfl ?_
  clear H a S;intro _ a S H
  refine wpList_nil (And.intro (Or.inr (S.sel [2] rfl rfl)) ?_)
  refine wt_nil ?_
  refine k2 _ _ ?_
  clear k2 K2
  replace H := H.keep [0, 1, 5, 6] rfl
  replace S := S.drew
  refine seq_wq [(0, true), (1, true), (2, true), (3, true), (4, true), (5, true), (7, true), (8, true), (9, true), (10, true), (11, true), (12, true), (6, false), (13, false), (14, true), (15, true)] (by kernel_rfl) (by kernel_rfl) (S.sel [2] rfl rfl) fun K3 k3 => ?_
  refine qF H <| qr 2 rfl <| qd rfl (fun _ S => (does_field fo_148_1 rfl)) <| qd rfl (fun _ S => (does_field fo_76_1 rfl)) <| qd rfl (fun _ S => (does_field fo_36_0 rfl)) <| qd rfl (fun _ S => does_load one_3 rfl (boxM.rd S (i := 0) rfl rfl)) <| qr 2 rfl <| qd rfl (fun _ S => (does_field fo_148_1 rfl)) <| qd rfl (fun _ S => (does_field fo_76_1 rfl)) <| qd rfl (fun _ S => (does_field fo_36_1 rfl)) <| qd rfl (fun _ S => does_load one_3 rfl (boxM.rd S (i := 0) rfl rfl)) <| qK ?_;clear H a;intro a H
  refine wq_eff rfl ?_
  have S1 := (S.sel [1] rfl rfl)
  refine list_call H rfl rfl Try.func79 rfl rfl (drv_with up empty pull drag motor br BA bcp sp slo shi sfail b5 v t slo _ _ S1.startR (hb.nowR S1) hesc hstp (by omega) (by omega) (by omega)) ?_;clear H a
  rintro _ _ a ⟨rfl, S2⟩ H
  replace S := (S.sel [1, 0, 2] rfl rfl).callR (M := [_]) S2; clear S1 S2
  refine wpList_nil (And.intro (S.sel [2] rfl rfl) ?_)
  refine wq_eff rfl ?_
  have S1 := (S.sel [1] rfl rfl)
  refine list_call H rfl rfl Try.func79 rfl rfl (drv_with up empty pull drag motor br BA bcp sp slo shi sfail b6 v t shi _ _ S1.startR (hb.nowR S1) hesc hstp (by omega) (by omega) (by omega)) ?_;clear H a
  rintro _ _ a ⟨rfl, S2⟩ H
  replace S := (S.sel [1, 0, 2] rfl rfl).callR (M := [_]) S2; clear S1 S2
  refine wpList_nil (And.intro (S.sel [2] rfl rfl) ?_)
  refine qF H <| qr 2 rfl <| qK ?_;clear H a;intro a H
  refine wq_nil ?_
  refine k3 _ _ ?_
  clear k3 K3
  refine wp_seq_k fun K4 k4 => ?_
  replace H := H.keep [0, 1, 5, 6, 7, 8] rfl
  refine sS H fun K5 k5=>sr 2 rfl <| sg 3 1 30 33 true rfl rfl (fun hg2 => sy hg2 <| sr 1 rfl <| sy hg2 <| sr 1 rfl <| sy hg2 <| sr 1 rfl <| sz 3 rfl rfl rfl) <| sa rfl rfl rfl <| sr 1 rfl <| sg 7 6 35 42 false rfl rfl (fun hg7 => sy hg7 <| sr 1 rfl <| sy hg7 <| sr 1 rfl <| sy hg7 <| sr 1 rfl <| sg 3 9 38 41 true rfl rfl (fun hg10 => sy hg10 <| sr 1 rfl <| sy hg10 <| sr 1 rfl <| sy hg10 <| sr 1 rfl <| sz 3 rfl rfl rfl) <| sy hg7 <| sa rfl rfl rfl <| sz 5 rfl rfl rfl) <| so rfl rfl rfl <| sE ?_;clear H a;intro a H
  refine k5 _ ?_;clear k5 K5
  refine cond_ H rfl (fun hc1 => ?_) (fun hc1 => ?_)
  ·skip
   try simp only [o1,o2,o3,o4,o5,o6,o7,o8,o9,oa] at hc1
   have hcx := hc1
   replace H := H.keep [0, 6] rfl
   refine seq_list fun K6 k6 => ?_
   refine ls 3 H <| sr 1 rfl <| sd ((does_loadBox agg_148 sz_148 rfl S (i := 0) rfl rfl)) <| sr 1 rfl <| sE ?_;clear H a;intro a H
   refine list_store H S (i := 2) rfl rfl rfl rfl sz_148 rfl rfl ?_
   clear H a S;intro _ a S H
   refine k6 _ _ ?_;clear k6 K6
   replace H := H.keep [0] rfl
   refine sS H fun K7 k7=>sr 2 rfl <| sf fo_148_1 rfl <| sf fo_76_1 rfl <| sf fo_36_1 rfl <| sl S 2 one_3 rfl rfl rfl <| sr 1 rfl <| sE ?_;clear H a;intro a H
   refine k7 _ ?_;clear k7 K7
   refine wp_ret ?_
   refine ret1 (fn := Try.f69) rfl H rfl ?_
   first | (rw [ext_hi (by cases most <;> simp at hcx ⊢ <;> omega)]; exact ⟨_, rfl, (S.sel [2] rfl rfl)⟩) | (rw [ext_lo (by cases most <;> simp at hcx ⊢ <;> omega)]; exact ⟨_, rfl, (S.sel [2] rfl rfl)⟩)
  try simp only [o1,o2,o3,o4,o5,o6,o7,o8,o9,oa] at hc1
  have hcx := hc1
  refine wp_skip ?_
  refine k4 _ _ ?_
  replace H := H.keep [0, 5] rfl
  refine seq_list fun K8 k8 => ?_
  refine ls 3 H <| sr 1 rfl <| sd ((does_loadBox agg_148 sz_148 rfl S (i := 1) rfl rfl)) <| sr 1 rfl <| sE ?_;clear H a;intro a H
  refine list_store H S (i := 2) rfl rfl rfl rfl sz_148 rfl rfl ?_
  clear H a S;intro _ a S H
  refine k8 _ _ ?_;clear k8 K8
  replace H := H.keep [0] rfl
  refine sS H fun K9 k9=>sr 2 rfl <| sf fo_148_1 rfl <| sf fo_76_1 rfl <| sf fo_36_0 rfl <| sl S 2 one_3 rfl rfl rfl <| sr 1 rfl <| sE ?_;clear H a;intro a H
  refine k9 _ ?_;clear k9 K9
  refine wp_ret ?_
  refine ret1 (fn := Try.f69) rfl H rfl ?_
  first | (rw [ext_hi (by cases most <;> simp at hcx ⊢ <;> omega)]; exact ⟨_, rfl, (S.sel [2] rfl rfl)⟩) | (rw [ext_lo (by cases most <;> simp at hcx ⊢ <;> omega)]; exact ⟨_, rfl, (S.sel [2] rfl rfl)⟩)
 ·skip
  refine list_alloc H rfl S ze_148 ?_;clear H a S;intro b6 _ a hb6 hbw6 S H
  refine wpList_nil (And.intro (Or.inr (S.sel [1] rfl rfl)) ?_)
  refine wt_eff rfl ?_
  refine list_alloc H rfl S ze_148 ?_;clear H a S;intro b5 _ a hb5 hbw5 S H
  refine wpList_nil (And.intro (Or.inr (S.sel [2] rfl rfl)) ?_)
  refine wt_eff rfl ?_
  refine list_store H S (i := 0) rfl rfl rfl rfl sz_148 rfl rfl ?_
  clear H a S;intro _ a S H
  refine wpList_nil (And.intro (Or.inr (S.sel [2] rfl rfl)) ?_)
  refine wt_eff rfl ?_
  refine list_store H S (i := 1) rfl rfl rfl rfl sz_148 rfl rfl ?_
  clear H a S;intro _ a S H
  refine wpList_nil (And.intro (Or.inr (S.sel [2] rfl rfl)) ?_)
  refine wt_nil ?_
  refine k2 _ _ ?_
  clear k2 K2
  replace H := H.keep [0, 1, 5, 6] rfl
  replace S := S.drew
  refine seq_wq [(0, true), (1, true), (2, true), (3, true), (4, true), (5, true), (7, true), (8, true), (9, true), (10, true), (11, true), (12, true), (6, false), (13, false), (14, true), (15, true)] (by kernel_rfl) (by kernel_rfl) (S.sel [2] rfl rfl) fun K10 k10 => ?_
  refine qF H <| qr 2 rfl <| qd rfl (fun _ S => (does_field fo_148_1 rfl)) <| qd rfl (fun _ S => (does_field fo_76_1 rfl)) <| qd rfl (fun _ S => (does_field fo_36_0 rfl)) <| qd rfl (fun _ S => does_load one_3 rfl (boxM.rd S (i := 0) rfl rfl)) <| qr 2 rfl <| qd rfl (fun _ S => (does_field fo_148_1 rfl)) <| qd rfl (fun _ S => (does_field fo_76_1 rfl)) <| qd rfl (fun _ S => (does_field fo_36_1 rfl)) <| qd rfl (fun _ S => does_load one_3 rfl (boxM.rd S (i := 0) rfl rfl)) <| qK ?_;clear H a;intro a H
  refine wq_eff rfl ?_
  have S1 := (S.sel [0] rfl rfl)
  refine list_call H rfl rfl Try.func79 rfl rfl (drv_with up empty pull drag motor br BA bcp sp slo shi sfail b5 v t slo _ _ S1.startR (hb.nowR S1) hesc hstp (by omega) (by omega) (by omega)) ?_;clear H a
  rintro _ _ a ⟨rfl, S2⟩ H
  replace S := (S.sel [0, 1, 2] rfl rfl).callR (M := [_]) S2; clear S1 S2
  refine wpList_nil (And.intro (S.sel [2] rfl rfl) ?_)
  refine wq_eff rfl ?_
  have S1 := (S.sel [1] rfl rfl)
  refine list_call H rfl rfl Try.func79 rfl rfl (drv_with up empty pull drag motor br BA bcp sp slo shi sfail b6 v t shi _ _ S1.startR (hb.nowR S1) hesc hstp (by omega) (by omega) (by omega)) ?_;clear H a
  rintro _ _ a ⟨rfl, S2⟩ H
  replace S := (S.sel [1, 0, 2] rfl rfl).callR (M := [_]) S2; clear S1 S2
  refine wpList_nil (And.intro (S.sel [2] rfl rfl) ?_)
  refine qF H <| qr 2 rfl <| qK ?_;clear H a;intro a H
  refine wq_nil ?_
  refine k10 _ _ ?_
  clear k10 K10
  refine wp_seq_k fun K11 k11 => ?_
  replace H := H.keep [0, 1, 5, 6, 7, 8] rfl
  refine sS H fun K12 k12=>sr 2 rfl <| sg 3 1 30 33 true rfl rfl (fun hg2 => sy hg2 <| sr 1 rfl <| sy hg2 <| sr 1 rfl <| sy hg2 <| sr 1 rfl <| sz 3 rfl rfl rfl) <| sa rfl rfl rfl <| sr 1 rfl <| sg 7 6 35 42 false rfl rfl (fun hg7 => sy hg7 <| sr 1 rfl <| sy hg7 <| sr 1 rfl <| sy hg7 <| sr 1 rfl <| sg 3 9 38 41 true rfl rfl (fun hg10 => sy hg10 <| sr 1 rfl <| sy hg10 <| sr 1 rfl <| sy hg10 <| sr 1 rfl <| sz 3 rfl rfl rfl) <| sy hg7 <| sa rfl rfl rfl <| sz 5 rfl rfl rfl) <| so rfl rfl rfl <| sE ?_;clear H a;intro a H
  refine k12 _ ?_;clear k12 K12
  refine cond_ H rfl (fun hc2 => ?_) (fun hc2 => ?_)
  ·skip
   try simp only [o1,o2,o3,o4,o5,o6,o7,o8,o9,oa] at hc2
   have hcx := hc2
   replace H := H.keep [0, 6] rfl
   refine seq_list fun K13 k13 => ?_
   refine ls 3 H <| sr 1 rfl <| sd ((does_loadBox agg_148 sz_148 rfl S (i := 0) rfl rfl)) <| sr 1 rfl <| sE ?_;clear H a;intro a H
   refine list_store H S (i := 2) rfl rfl rfl rfl sz_148 rfl rfl ?_
   clear H a S;intro _ a S H
   refine k13 _ _ ?_;clear k13 K13
   replace H := H.keep [0] rfl
   refine sS H fun K14 k14=>sr 2 rfl <| sf fo_148_1 rfl <| sf fo_76_1 rfl <| sf fo_36_1 rfl <| sl S 2 one_3 rfl rfl rfl <| sr 1 rfl <| sE ?_;clear H a;intro a H
   refine k14 _ ?_;clear k14 K14
   refine wp_ret ?_
   refine ret1 (fn := Try.f69) rfl H rfl ?_
   first | (rw [ext_hi (by cases most <;> simp at hcx ⊢ <;> omega)]; exact ⟨_, rfl, (S.sel [2] rfl rfl)⟩) | (rw [ext_lo (by cases most <;> simp at hcx ⊢ <;> omega)]; exact ⟨_, rfl, (S.sel [2] rfl rfl)⟩)
  try simp only [o1,o2,o3,o4,o5,o6,o7,o8,o9,oa] at hc2
  have hcx := hc2
  refine wp_skip ?_
  refine k11 _ _ ?_
  replace H := H.keep [0, 5] rfl
  refine seq_list fun K15 k15 => ?_
  refine ls 3 H <| sr 1 rfl <| sd ((does_loadBox agg_148 sz_148 rfl S (i := 1) rfl rfl)) <| sr 1 rfl <| sE ?_;clear H a;intro a H
  refine list_store H S (i := 2) rfl rfl rfl rfl sz_148 rfl rfl ?_
  clear H a S;intro _ a S H
  refine k15 _ _ ?_;clear k15 K15
  replace H := H.keep [0] rfl
  refine sS H fun K16 k16=>sr 2 rfl <| sf fo_148_1 rfl <| sf fo_76_1 rfl <| sf fo_36_0 rfl <| sl S 2 one_3 rfl rfl rfl <| sr 1 rfl <| sE ?_;clear H a;intro a H
  refine k16 _ ?_;clear k16 K16
  refine wp_ret ?_
  refine ret1 (fn := Try.f69) rfl H rfl ?_
  first | (rw [ext_hi (by cases most <;> simp at hcx ⊢ <;> omega)]; exact ⟨_, rfl, (S.sel [2] rfl rfl)⟩) | (rw [ext_lo (by cases most <;> simp at hcx ⊢ <;> omega)]; exact ⟨_, rfl, (S.sel [2] rfl rfl)⟩)

theorem go_step {e : Esc} {s : Stp} {m : Bool} {g : Nat} {v t : Int} (hg : 0 < g) (hv : v ≠ 0) : goI e s m g v t = (extI e s m v t + (goI e s m (g - 1) (extI e s m v t) (t + 1)).1, (goI e s m (g - 1) (extI e s m v t) (t + 1)).2) := by
  obtain ⟨n, rfl⟩ : ∃ n, g = n + 1 := ⟨g - 1, by omega⟩
  rw [goI, if_neg hv, Nat.add_sub_cancel]
theorem go_stop {e : Esc} {s : Stp} {m : Bool} {g : Nat} {v t : Int} (h : v = 0 ∨ g = 0) : goI e s m g v t = (0, decide (v = 0)) := by
  cases g with
  | zero => rfl
  | succ n =>
    rcases h with h | h
    · rw [goI, if_pos h, decide_eq_true h]
    · cases h
theorem ext_bd {e : Esc} {s : Stp} {m : Bool} {v t B : Int} (he : escOk e = true) (hs : stpOk e s = true) (hv : -B ≤ v ∧ v ≤ B) : -(B + 50000000) ≤ extI e s m v t ∧ extI e s m v t ≤ B + 50000000 := by
  have hS := hs; unfold stpOk at hS; simp only [decide_eq_true_eq] at hS
  have hq : e.br.all brakeOk = true := by unfold escOk at he; simp only [Bool.and_eq_true] at he; exact he.2
  have hgb := grip_bd (fail := s.fail) (t := t) hq e.br.length (Nat.le_refl _)
  have hE := (esc_parts he).1
  have hgr : 0 ≤ gripI e s t ∧ gripI e s t ≤ 30000000 := by unfold gripI; omega
  rcases ext_is (e := e) (s := s) (m := m) (v := v) (t := t) with h | h
  · rw [h]; exact tick_bd he (by omega) hgr hv
  · rw [h]; exact tick_bd he (by omega) hgr hv


theorem drv_run (up : Bool) (empty pull drag motor : Int) (br : List Brake) (BA : Option Addr) (bcp : Nat) (sp slo shi sfail : Int) (most : Bool) (w : World) (hb : InS w noF 2 BA br.length (bcell br)) (hbn : br.length ≤ 9223372036854775807) (hesc : escOk (⟨up, empty, pull, drag, motor, br⟩ : Esc) = true) (hstp : stpOk (⟨up, empty, pull, drag, motor, br⟩ : Esc) (⟨sp, slo, shi, sfail⟩ : Stp) = true) :
    Calls Try.prog 46 [.agg [.bool up, .int .i64 empty, .int .i64 pull, .int .i64 drag, .int .i64 motor, .slice BA br.length bcp].toArray, .agg [.int .i64 sp, .int .i64 slo, .int .i64 shi, .int .i64 sfail].toArray, .bool most].toArray w (Ret (fun u w' => ∃ A' n c' f, u = .agg [.int .i64 (goI (⟨up, empty, pull, drag, motor, br⟩ : Esc) (⟨sp, slo, shi, sfail⟩ : Stp) most 100 sp 0).1, .slice A' n c', .bool (goI (⟨up, empty, pull, drag, motor, br⟩ : Esc) (⟨sp, slo, shi, sfail⟩ : Stp) most 100 sp 0).2].toArray ∧ St w noF [ownM 3 1 A' n c' f] w')) := by
 have hE := esc_parts hesc
 dsimp only at hE
 obtain ⟨hE1, hE2, hE3, hE4, hE5⟩ := hE
 have hS1 := hstp; unfold stpOk at hS1; simp only [decide_eq_true_eq] at hS1
 have hmx : maxLen = 9223372036854775807 := rfl
 refine enter Try.func46 rfl Try.ntmps46 rfl (fun a H => ?_)
 have S := St.start w
 refine seq_list fun K1 k1 => ?_
 refine list_box H rfl S rfl rfl ?_;clear H a S;intro b3 _ a hb3 hbw3 S H
 refine list_box H rfl S rfl rfl ?_;clear H a S;intro b4 _ a hb4 hbw4 S H
 refine list_alloc H rfl S ze_120 ?_;clear H a S;intro b6 _ a hb6 hbw6 S H
 refine k1 _ _ ?_;clear k1 K1
 replace H := H.keep [2, 3, 4, 6] rfl
 refine seq_list fun K2 k2 => ?_
 refine ls 5 H <| sd ((does_loadBox agg_81 sz_81 rfl S (i := 2) rfl rfl)) <| sd ((does_loadBox agg_76 sz_76 rfl S (i := 1) rfl rfl)) <| sf fo_76_0 rfl <| sl S 1 one_3 rfl rfl rfl <| sd (does_build bt_148 rfl rfl) <| sE ?_;clear H a;intro a H
 refine list_alloc H rfl S ze_148 ?_;clear H a S;intro b7 _ a hb7 hbw7 S H
 refine list_store H S (i := 0) rfl rfl rfl rfl sz_148 rfl rfl ?_
 clear H a S;intro _ a S H
 refine k2 _ _ ?_;clear k2 K2
 replace H := H.keep [2, 4, 6, 7] rfl
 refine seq_list fun K3 k3 => ?_
 refine ls 4 H <| sf fo_76_0 rfl <| sl S 2 one_3 rfl rfl rfl <| sr 1 rfl <| sd (does_build bt_120 rfl rfl) <| sE ?_;clear H a;intro a H
 refine list_alloc H rfl S ze_120 ?_;clear H a S;intro b8 _ a hb8 hbw8 S H
 refine list_store H S (i := 0) rfl rfl rfl rfl sz_120 rfl rfl ?_
 clear H a S;intro _ a S H
 refine k3 _ _ ?_;clear k3 K3
 refine wp_seq_k fun K4 k4 => ?_
 refine wp_block ?_
 replace S := S.newNil 3 1 (fun _ _ => undef)
 refine loop_st (X := Int × Nat × Int × Option Addr × Nat × (Nat → Nat → Value)) (R0 := _) [2, 6, 7, 8] H rfl (fun ⟨v, t, way, A', c', f'⟩ => []) (fun ⟨v, t, way, A', c', f'⟩ => [boxM b7 148 [.bool up, .int .i64 empty, .int .i64 pull, .int .i64 drag, .int .i64 motor, .slice BA br.length bcp, .int .i64 sp, .int .i64 slo, .int .i64 shi, .int .i64 sfail, .int .i64 (v), .int .i64 (t : Int)], boxM b8 120 [.int .i64 way, .slice A' t c', .bool (decide (v = 0))], ownM 3 1 A' t c' f']) (fun g ⟨v, t, way, A', c', f'⟩ => t ≤ 100 ∧ g + t = 100 ∧ (-(1000 + 50000000 * (t : Int)) ≤ v ∧ v ≤ 1000 + 50000000 * (t : Int)) ∧ (-(6000000000 * (t : Int)) ≤ way ∧ way ≤ 6000000000 * (t : Int)) ∧ way + (goI (⟨up, empty, pull, drag, motor, br⟩ : Esc) (⟨sp, slo, shi, sfail⟩ : Stp) most g v t).1 = (goI (⟨up, empty, pull, drag, motor, br⟩ : Esc) (⟨sp, slo, shi, sfail⟩ : Stp) most 100 sp 0).1 ∧ (goI (⟨up, empty, pull, drag, motor, br⟩ : Esc) (⟨sp, slo, shi, sfail⟩ : Stp) most g v t).2 = (goI (⟨up, empty, pull, drag, motor, br⟩ : Esc) (⟨sp, slo, shi, sfail⟩ : Stp) most 100 sp 0).2) (100) (sp, 0, 0, none, 0, fun _ _ => undef) ?_ (S.sel [2, 1, 0, 3, 4, 5] rfl rfl) (H.keep [2, 6, 7, 8] rfl) ?_
 · exact ⟨by omega, by omega, by omega, by omega, Int.zero_add _, rfl⟩
 clear H S a
 intro g1 x1 a w1 hp S H K5 k5
 obtain ⟨v, t, way, A', c', f'⟩ := x1
 dsimp only at hp S H
 refine wp_seq_k fun K6 k6 => ?_
 refine sS H fun K7 k7=>sf fo_120_2 rfl <| sl S 1 one_4 rfl rfl rfl <| sr 2 rfl <| sg 3 3 21 24 true rfl rfl (fun hg4 => sy hg4 <| sf fo_148_3 rfl <| sy hg4 <| sl S 0 one_3 rfl rfl rfl <| sy hg4 <| sr 1 rfl <| sz 3 rfl rfl rfl) <| sa rfl rfl rfl <| sE ?_;clear H a;intro a H
 refine k7 _ ?_;clear k7 K7
 refine cond_ H rfl (fun hc1 => ?_) (fun hc1 => ?_)
 ·skip
  try simp only [o1,o2,o3,o4,o5,o6,o7,o8,o9,oa] at hc1
  refine wp_skip ?_
  refine k6 _ _ ?_
  refine wp_block ?_
  have hxb := ext_bd (m := most) (v := v) (t := (t : Int)) (B := 1000 + 50000000 * t) hesc hstp (by omega)
  replace H := H.keep [2, 6, 7, 8] rfl
  replace S := S.drew
  refine seq_wt 7 (.p 0 (.p 2 (.b2 1 (.e 3 (.e 4 (.e 5 (.p 6 (.e 7 .nil))))) 3 (.b2 1 (.e 4 (.e 5 (.p 6 (.e 7 .nil)))) 4 (.e 1 (.e 5 (.p 6 (.e 7 .nil)))))))) (by kernel_rfl) (by kernel_rfl) (S.sel [3, 4, 5] rfl rfl) fun K8 k8 => ?_
  refine wt_pure H rfl rfl (fun _ => (does_field fo_120_1 rfl)) ?_;clear H a;intro a H
  refine wt_pure H rfl rfl (fun _ => does_move rfl) ?_;clear H a;intro a H
  refine wt_b2 rfl rfl ?_ ?_
  ·skip
   refine ls 1 H <| sl S 1 one_25 rfl rfl rfl <| sE ?_;clear H a;intro a H
   refine wpList_nil (And.intro (Or.inr (S.sel [3, 4, 5] rfl rfl)) ?_)
   refine wt_eff rfl ?_
   have S1 := (S.sel [0] rfl rfl)
   refine list_call H rfl rfl Try.func69 rfl rfl (drv_extreme up empty pull drag motor br BA bcp sp slo shi sfail b7 v t most _ _ S1.startR (hb.nowR S1) hesc hstp (by omega) (by omega)) ?_;clear H a
   rintro _ _ a ⟨nl, rfl, S2⟩ H
   replace S := (S.sel [0, 1, 2, 3, 4, 5] rfl rfl).callR (M := [_]) S2; clear S1 S2
   refine wpList_nil (And.intro (Or.inr (S.sel [3, 4, 5] rfl rfl)) ?_)
   refine wt_eff rfl ?_
   refine list_build' H rfl S sl_25 sz_3 ze_3 rfl rfl rfl rfl rfl rfl rfl rfl rfl ?_;clear H a S;intro A1 _ a hA1 S H
   refine wpList_nil (And.intro (Or.inr (S.sel [4, 5, 6] rfl rfl)) ?_)
   refine wt_eff rfl ?_
   refine list_append H rfl S sl_25 sz_3 ze_3 by_3 rfl rfl (i := 3) rfl rfl rfl (ownM.inS S (i := 0) rfl) (one_vs (one rfl)) (by omega) (by omega) ?_;clear H a S;intro A2 c2 _ a S H
   refine wpList_nil (And.intro (Or.inr (S.sel [4, 5, 6] rfl rfl)) ?_)
   refine wt_pure H rfl rfl (fun _ => (does_field fo_120_1 rfl)) ?_;clear H a;intro a H
   refine wt_eff rfl ?_
   refine list_store H S (i := 2) rfl rfl rfl rfl sz_25 rfl rfl ?_
   clear H a S;intro _ a S H
   refine wpList_nil (And.intro (Or.inl rfl) ?_)
   refine wt_nil ?_
   refine k8 _ _ ?_
   clear k8 K8
   replace H := H.keep [2, 6, 7, 8] rfl
   refine seq_list fun K9 k9 => ?_
   refine ls 6 H <| sf fo_120_0 rfl <| sl S 2 one_3 rfl rfl rfl <| sf fo_148_2 rfl <| sl S 1 one_3 rfl rfl rfl <| sd (does_add rfl rfl (by unfold i64ok; omega)) <| sf fo_120_0 rfl <| sE ?_;clear H a;intro a H
   refine list_store H S (i := 2) rfl rfl rfl rfl sz_3 rfl rfl ?_
   clear H a S;intro _ a S H
   refine k9 _ _ ?_;clear k9 K9
   replace H := H.keep [2, 6, 7, 8] rfl
   refine one_list ?_
   refine ls 4 H <| sf fo_148_2 rfl <| sl S 1 one_3 rfl rfl rfl <| sr 1 rfl <| sf fo_120_2 rfl <| sE ?_;clear H a;intro a H
   refine list_store H S (i := 2) rfl rfl rfl rfl sz_4 rfl rfl ?_
   clear H a S;intro _ a S H
   have hgs := go_step (e := (⟨up, empty, pull, drag, motor, br⟩ : Esc)) (s := (⟨sp, slo, shi, sfail⟩ : Stp)) (m := most) (g := g1) (v := v) (t := (t : Int)) (by omega) (by omega)
   exact k5 (g1 - 1) (extI (⟨up, empty, pull, drag, motor, br⟩ : Esc) (⟨sp, slo, shi, sfail⟩ : Stp) most v (t : Int), t + 1, way + extI (⟨up, empty, pull, drag, motor, br⟩ : Esc) (⟨sp, slo, shi, sfail⟩ : Stp) most v (t : Int), _, _, _) a _ (by omega) (⟨by omega, by omega, by omega, by omega, by have h9 := hp.2.2.2.2.1; rw [hgs] at h9; (try dsimp only at h9 ⊢); push_cast; omega, by have h9 := hp.2.2.2.2.2; rw [hgs] at h9; exact h9⟩) (S.sel [1, 2, 3, 4, 5, 6] rfl rfl) (H.keep [2, 6, 7, 8] rfl)
  ·skip
   have S1 := (S.sel [0] rfl rfl)
   refine list_call H rfl rfl Try.func69 rfl rfl (drv_extreme up empty pull drag motor br BA bcp sp slo shi sfail b7 v t most _ _ S1.startR (hb.nowR S1) hesc hstp (by omega) (by omega)) ?_;clear H a
   rintro _ _ a ⟨nl, rfl, S2⟩ H
   replace S := (S.sel [0, 1, 2, 3, 4, 5] rfl rfl).callR (M := [_]) S2; clear S1 S2
   refine wpList_nil (And.intro (Or.inr (S.sel [3, 4, 5] rfl rfl)) ?_)
   refine wt_b2 rfl rfl ?_ ?_
   ·skip
    refine ls 1 H <| sl S 1 one_25 rfl rfl rfl <| sE ?_;clear H a;intro a H
    refine wpList_nil (And.intro (Or.inr (S.sel [3, 4, 5] rfl rfl)) ?_)
    refine wt_eff rfl ?_
    refine list_build' H rfl S sl_25 sz_3 ze_3 rfl rfl rfl rfl rfl rfl rfl rfl rfl ?_;clear H a S;intro A3 _ a hA3 S H
    refine wpList_nil (And.intro (Or.inr (S.sel [4, 5, 6] rfl rfl)) ?_)
    refine wt_eff rfl ?_
    refine list_append H rfl S sl_25 sz_3 ze_3 by_3 rfl rfl (i := 3) rfl rfl rfl (ownM.inS S (i := 0) rfl) (one_vs (one rfl)) (by omega) (by omega) ?_;clear H a S;intro A4 c4 _ a S H
    refine wpList_nil (And.intro (Or.inr (S.sel [4, 5, 6] rfl rfl)) ?_)
    refine wt_pure H rfl rfl (fun _ => (does_field fo_120_1 rfl)) ?_;clear H a;intro a H
    refine wt_eff rfl ?_
    refine list_store H S (i := 2) rfl rfl rfl rfl sz_25 rfl rfl ?_
    clear H a S;intro _ a S H
    refine wpList_nil (And.intro (Or.inl rfl) ?_)
    refine wt_nil ?_
    refine k8 _ _ ?_
    clear k8 K8
    replace H := H.keep [2, 6, 7, 8] rfl
    refine seq_list fun K11 k11 => ?_
    refine ls 6 H <| sf fo_120_0 rfl <| sl S 2 one_3 rfl rfl rfl <| sf fo_148_2 rfl <| sl S 1 one_3 rfl rfl rfl <| sd (does_add rfl rfl (by unfold i64ok; omega)) <| sf fo_120_0 rfl <| sE ?_;clear H a;intro a H
    refine list_store H S (i := 2) rfl rfl rfl rfl sz_3 rfl rfl ?_
    clear H a S;intro _ a S H
    refine k11 _ _ ?_;clear k11 K11
    replace H := H.keep [2, 6, 7, 8] rfl
    refine one_list ?_
    refine ls 4 H <| sf fo_148_2 rfl <| sl S 1 one_3 rfl rfl rfl <| sr 1 rfl <| sf fo_120_2 rfl <| sE ?_;clear H a;intro a H
    refine list_store H S (i := 2) rfl rfl rfl rfl sz_4 rfl rfl ?_
    clear H a S;intro _ a S H
    have hgs := go_step (e := (⟨up, empty, pull, drag, motor, br⟩ : Esc)) (s := (⟨sp, slo, shi, sfail⟩ : Stp)) (m := most) (g := g1) (v := v) (t := (t : Int)) (by omega) (by omega)
    exact k5 (g1 - 1) (extI (⟨up, empty, pull, drag, motor, br⟩ : Esc) (⟨sp, slo, shi, sfail⟩ : Stp) most v (t : Int), t + 1, way + extI (⟨up, empty, pull, drag, motor, br⟩ : Esc) (⟨sp, slo, shi, sfail⟩ : Stp) most v (t : Int), _, _, _) a _ (by omega) (⟨by omega, by omega, by omega, by omega, by have h9 := hp.2.2.2.2.1; rw [hgs] at h9; (try dsimp only at h9 ⊢); push_cast; omega, by have h9 := hp.2.2.2.2.2; rw [hgs] at h9; exact h9⟩) (S.sel [1, 2, 3, 4, 5, 6] rfl rfl) (H.keep [2, 6, 7, 8] rfl)
   ·skip
    refine list_build' H rfl S sl_25 sz_3 ze_3 rfl rfl rfl rfl rfl rfl rfl rfl rfl ?_;clear H a S;intro A5 _ a hA5 S H
    refine wpList_nil (And.intro (Or.inr (S.sel [4, 5, 6] rfl rfl)) ?_)
    refine wt_eff rfl ?_
    refine ls 1 H <| sl S 2 one_25 rfl rfl rfl <| sE ?_;clear H a;intro a H
    refine wpList_nil (And.intro (Or.inr (S.sel [4, 5, 6] rfl rfl)) ?_)
    refine wt_eff rfl ?_
    refine list_append H rfl S sl_25 sz_3 ze_3 by_3 rfl rfl (i := 3) rfl rfl rfl (ownM.inS S (i := 0) rfl) (one_vs (one rfl)) (by omega) (by omega) ?_;clear H a S;intro A6 c6 _ a S H
    refine wpList_nil (And.intro (Or.inr (S.sel [4, 5, 6] rfl rfl)) ?_)
    refine wt_pure H rfl rfl (fun _ => (does_field fo_120_1 rfl)) ?_;clear H a;intro a H
    refine wt_eff rfl ?_
    refine list_store H S (i := 2) rfl rfl rfl rfl sz_25 rfl rfl ?_
    clear H a S;intro _ a S H
    refine wpList_nil (And.intro (Or.inl rfl) ?_)
    refine wt_nil ?_
    refine k8 _ _ ?_
    clear k8 K8
    replace H := H.keep [2, 6, 7, 8] rfl
    refine seq_list fun K13 k13 => ?_
    refine ls 6 H <| sf fo_120_0 rfl <| sl S 2 one_3 rfl rfl rfl <| sf fo_148_2 rfl <| sl S 1 one_3 rfl rfl rfl <| sd (does_add rfl rfl (by unfold i64ok; omega)) <| sf fo_120_0 rfl <| sE ?_;clear H a;intro a H
    refine list_store H S (i := 2) rfl rfl rfl rfl sz_3 rfl rfl ?_
    clear H a S;intro _ a S H
    refine k13 _ _ ?_;clear k13 K13
    replace H := H.keep [2, 6, 7, 8] rfl
    refine one_list ?_
    refine ls 4 H <| sf fo_148_2 rfl <| sl S 1 one_3 rfl rfl rfl <| sr 1 rfl <| sf fo_120_2 rfl <| sE ?_;clear H a;intro a H
    refine list_store H S (i := 2) rfl rfl rfl rfl sz_4 rfl rfl ?_
    clear H a S;intro _ a S H
    have hgs := go_step (e := (⟨up, empty, pull, drag, motor, br⟩ : Esc)) (s := (⟨sp, slo, shi, sfail⟩ : Stp)) (m := most) (g := g1) (v := v) (t := (t : Int)) (by omega) (by omega)
    exact k5 (g1 - 1) (extI (⟨up, empty, pull, drag, motor, br⟩ : Esc) (⟨sp, slo, shi, sfail⟩ : Stp) most v (t : Int), t + 1, way + extI (⟨up, empty, pull, drag, motor, br⟩ : Esc) (⟨sp, slo, shi, sfail⟩ : Stp) most v (t : Int), _, _, _) a _ (by omega) (⟨by omega, by omega, by omega, by omega, by have h9 := hp.2.2.2.2.1; rw [hgs] at h9; (try dsimp only at h9 ⊢); push_cast; omega, by have h9 := hp.2.2.2.2.2; rw [hgs] at h9; exact h9⟩) (S.sel [1, 2, 3, 4, 5, 6] rfl rfl) (H.keep [2, 6, 7, 8] rfl)
 try simp only [o1,o2,o3,o4,o5,o6,o7,o8,o9,oa] at hc1
 refine wp_exit ?_
 refine k4 _ _ ?_
 refine seq_list fun K15 k15 => ?_
 refine ls 1 H <| sd ((does_loadBox agg_120 sz_120 rfl S (i := 1) rfl rfl)) <| sE ?_;clear H a;intro a H
 refine list_store H S (i := 3) rfl rfl rfl rfl sz_120 rfl rfl ?_
 clear H a S;intro _ a S H
 refine k15 _ _ ?_;clear k15 K15
 refine wp_ret ?_
 refine retA (fn := Try.f46) rfl H rfl agg_120 (by exact sz_120) (boxAgg S (i := 3) rfl) ?_
 have hgs := go_stop (e := (⟨up, empty, pull, drag, motor, br⟩ : Esc)) (s := (⟨sp, slo, shi, sfail⟩ : Stp)) (m := most) (g := g1) (v := v) (t := (t : Int)) (by omega)
 rw [hgs] at hp
 have h8 := hp.2.2.2.2.1; have h9 := hp.2.2.2.2.2
 dsimp only at h8 h9
 rw [Int.add_zero] at h8
 rw [← h8, ← h9]
 exact ⟨_, _, _, _, rfl, (S.sel [2] rfl rfl)⟩

end Go.Proofs.Ytdepakimbagonaa
