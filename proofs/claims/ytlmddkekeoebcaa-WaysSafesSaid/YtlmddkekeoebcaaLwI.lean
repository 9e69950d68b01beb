/- LwI. Printed by gen.py. -/
import Derived.Test.YtlmddkekeoebcaaLwE
import Derived.Test.YtlmddkekeoebcaaRfF
import Derived.Test.YtlmddkekeoebcaaRwF
namespace Go.Proofs.Ytlmddkekeoebcaa
open Go.RowKit
set_option linter.unusedVariables false
set_option linter.unusedSimpArgs false
set_option maxRecDepth 100000
set_option maxHeartbeats 4000000


theorem lawq_WaysSafes (pl : Int) (ps : List Psg) (PA : Option Addr) (pc : Nat) (xs : List Int) (XA : Option Addr) (xc : Nat) (day : List Hq) (HA : Option Addr) (hcp : Nat) (DA : Nat → Option Addr) (dc : Nat → Nat) (out : Int) (pe : List Int) (BA : Option Addr) (bc : Nat) (T0 : Int) (w : World) (hps : InS w noF 7 PA ps.length (pcell ps)) (hpn8 : 56 * ps.length ≤ 140737488355328) (hxs : InS w noF 1 XA xs.length (icl xs)) (hxn8 : 8 * xs.length ≤ 140737488355328) (hday : InS w noF 3 HA day.length (hcl day DA dc)) (hd8 : 40 * day.length ≤ 140737488355328) (hdp : ∀ k, k < day.length → InS w noF 1 (DA k) (day.getD k Hq.zero).pe.length (icl (day.getD k Hq.zero).pe)) (hdl8 : ∀ k, k < day.length → 8 * (day.getD k Hq.zero).pe.length ≤ 140737488355328) (hpe : InS w noF 1 BA pe.length (icl pe)) (hpe8 : 8 * pe.length ≤ 140737488355328) :
    Calls Try.prog 14 [.agg [.int .i64 pl, .slice PA ps.length pc, .slice XA xs.length xc].toArray, .slice HA day.length hcp, .agg [.int .i64 out, .slice BA pe.length bc, .int .i64 T0].toArray].toArray w (Ret (fun u w' => u = .bool true ∧ St w noF [] w')) := by
 have hpn : ps.length ≤ 9223372036854775807 := by omega
 have hxn : xs.length ≤ 9223372036854775807 := by omega
 have hpen : pe.length ≤ 9223372036854775807 := by omega
 have hdn : day.length ≤ 9223372036854775807 := by omega
 have hdl : ∀ k, k < day.length → (day.getD k Hq.zero).pe.length ≤ 9223372036854775807 := fun k hk => by have := hdl8 k hk; omega
 refine enter Try.func14 rfl Try.ntmps14 rfl (fun a H => ?_)
 have S := St.start w
 refine seq_list fun K1 k1 => ?_
 refine list_box H rfl S rfl rfl ?_;clear H a S;intro b3 _ a hb3 hbw3 S H
 refine list_box H rfl S rfl rfl ?_;clear H a S;intro b5 _ a hb5 hbw5 S H
 refine ls 1 H <| sr 1 rfl <| sE ?_;clear H a;intro a H
 refine k1 _ _ ?_;clear k1 K1
 refine wp_seq_k fun K2 k2 => ?_
 replace H := H.keep [1, 3, 5] rfl
 refine seq_list fun K3 k3 => ?_
 refine ls 5 H <| sd ((does_loadBox agg_25 sz_25 rfl S (i := 1) rfl rfl)) <| sf fo_48_1 rfl <| sl S 0 one_23 rfl rfl rfl <| sf fo_48_2 rfl <| sl S 0 one_3 rfl rfl rfl <| sE ?_;clear H a;intro a H
 refine list_call H rfl rfl Try.func28 rfl rfl (law_Crowded pl ps PA pc xs XA xc pe BA bc T0 _ (hps.now S) hpn (hxs.now S) hxn (hpe.now S) hpen) ?_;clear H a
 rintro _ _ a ⟨cb, rfl, hcb, S2⟩ H
 replace S := S.call S2;clear S2
 refine ls 15 H <| sr 1 rfl <| sg 8 6 23 31 false rfl rfl (fun hg7 => by
     have hq7 := hg7;try simp only [o1,o2,o3,o4,o5,o6,o7,o8,o9,oa] at hq7
     exact sy hg7 <| sr 1 rfl <| sy hg7 <| sL sl_65 rfl <| sy hg7 <| sr 1 rfl <| sy hg7 <| sr 1 rfl <| sg 3 10 27 30 true rfl rfl (fun hg11 => by
          have hq11 := hg11;try simp only [o1,o2,o3,o4,o5,o6,o7,o8,o9,oa] at hq11
          exact sy hg11 <| sr 1 rfl <| sy hg11 <| sL sl_65 rfl <| sy hg11 <| sr 1 rfl <| sz 3 rfl rfl rfl) <| sy hg7 <| sa rfl rfl rfl <| sz 6 rfl rfl rfl) <| so rfl rfl rfl <| sr 1 rfl <| sg 3 16 33 36 false rfl rfl (fun hg17 => by
     have hq17 := hg17;try simp only [o1,o2,o3,o4,o5,o6,o7,o8,o9,oa] at hq17
     exact sy hg17 <| sr 1 rfl <| sy hg17 <| sL sl_65 rfl <| sy hg17 <| sr 1 rfl <| sz 3 rfl rfl rfl) <| so rfl rfl rfl <| sE ?_;clear H a;intro a H
 refine k3 _ _ ?_;clear k3 K3
 refine cond_ H rfl (fun hc1 => ?_) (fun hc1 => ?_)
 ·skip
  try simp only [o1,o2,o3,o4,o5,o6,o7,o8,o9,oa] at hc1
  replace H := H.keep [] rfl
  refine seq_list fun K4 k4 => ?_
  refine list_call H rfl rfl Try.func15 rfl rfl (law_works _) ?_;clear H a
  rintro _ _ a ⟨rfl, S2⟩ H
  replace S := S.call S2;clear S2
  refine ls 1 H <| sr 1 rfl <| sE ?_;clear H a;intro a H
  refine k4 _ _ ?_;clear k4 K4
  refine wp_ret ?_
  refine ret1 (fn := Try.f14) rfl H rfl ?_
  exact ⟨rfl, (S.sel [] rfl rfl)⟩
 try simp only [o1,o2,o3,o4,o5,o6,o7,o8,o9,oa] at hc1
 refine wp_skip ?_
 refine k2 _ _ ?_
 refine wp_seq_k fun K5 k5 => ?_
 refine sS H fun K6 k6=>sr 1 rfl <| sE ?_;clear H a;intro a H
 refine k6 _ ?_;clear k6 K6
 refine wp_block ?_
 refine loop_st (X := Nat) (R0 := _) [1, 3, 5] H rfl (fun i => [(7, .int .i64 (i : Int))]) (fun i => []) (fun g i => i ≤ day.length ∧ g + i = day.length) (day.length) 0 ?_ (S.sel [0, 1] rfl rfl) (H.keep [7, 1, 3, 5] rfl) ?_
 · exact ⟨by omega, by omega⟩
 clear H S a
 intro g1 x1 a w1 hp S H K7 k7
 obtain ⟨i, rfl⟩ : ∃ y, y = x1 := ⟨_, rfl⟩
 refine wp_seq_k fun K8 k8 => ?_
 refine sS H fun K9 k9=>sr 2 rfl <| sL sl_65 rfl <| sr 1 rfl <| sE ?_;clear H a;intro a H
 refine k9 _ ?_;clear k9 K9
 refine condL H rfl (fun hc2 => ?_) (fun hc2 => ?_)
 ·skip
  refine wp_skip ?_
  refine k8 _ _ ?_
  refine wp_seq_k fun K10 k10 => ?_
  refine wp_block ?_
  replace H := H.keep [1, 3, 5, 7] rfl
  replace S := S.drew
  refine seq_wq [(0, true), (1, true), (2, true), (3, true), (4, true), (5, true), (6, false)] (by kernel_rfl) (by kernel_rfl) (S.sel [0, 1] rfl rfl) fun K11 k11 => ?_
  refine qF H <| qd rfl (fun _ S => (does_loadBox agg_25 sz_25 rfl S (i := 1) rfl rfl)) <| qr 2 rfl <| qd rfl (fun _ S => does_indexN sl_65 sz_74 rfl rfl (hday.adr (by omega)) (by omega)) <| qd rfl (fun _ S => (does_field_pt fo_74_2 rfl)) <| qd rfl (fun _ S => does_load one_23 rfl (hday.rd S (by omega) (by omega))) <| qK ?_;clear H a;intro a H
  refine wq_eff rfl ?_
  refine list_call H rfl rfl Try.func28 rfl rfl (law_Crowded pl ps PA pc xs XA xc (day.getD i Hq.zero).pe (DA i) (dc i) 0 _ (hps.now S) hpn (hxs.now S) hxn ((hdp i (by omega)).now S) (hdl i (by omega))) ?_;clear H a
  rintro _ _ a ⟨cb2, rfl, hcb2, S2⟩ H
  replace S := S.call S2;clear S2
  refine wpList_nil (And.intro (S.sel [0, 1] rfl rfl) ?_)
  refine wq_nil ?_
  refine k11 _ _ ?_
  clear k11 K11
  refine cond_ H rfl (fun hc3 => ?_) (fun hc3 => ?_)
  ·skip
   try simp only [o1,o2,o3,o4,o5,o6,o7,o8,o9,oa] at hc3
   refine seq_list fun K12 k12 => ?_
   refine list_call H rfl rfl Try.func15 rfl rfl (law_works _) ?_;clear H a
   rintro _ _ a ⟨rfl, S2⟩ H
   replace S := S.call S2;clear S2
   refine ls 1 H <| sr 1 rfl <| sE ?_;clear H a;intro a H
   refine k12 _ _ ?_;clear k12 K12
   refine wp_ret ?_
   refine ret1 (fn := Try.f14) rfl H rfl ?_
   exact ⟨rfl, (S.sel [] rfl rfl)⟩
  try simp only [o1,o2,o3,o4,o5,o6,o7,o8,o9,oa] at hc3
  refine wp_skip ?_
  refine k10 _ _ ?_
  replace H := H.keep [1, 3, 5, 7] rfl
  refine sO H <| sr 1 rfl <| sd (does_add rfl rfl (by unfold i64ok; omega)) <| sr 1 rfl <| sE ?_;clear H a;intro a H
  exact k7 (g1 - 1) (i + 1) a _ (by omega) (⟨by omega, by omega⟩) (S.sel [0, 1] rfl rfl) (H.keep [7, 1, 3, 5] rfl)
 refine wp_exit ?_
 refine k5 _ _ ?_
 refine seq_list fun K14 k14 => ?_
 refine ls 1 H <| sd ((does_loadBox agg_25 sz_25 rfl S (i := 1) rfl rfl)) <| sE ?_;clear H a;intro a H
 refine list_call H rfl rfl Try.func17 rfl rfl (ref_Copy pl ps PA pc xs XA xc _ (hps.now S) hpn (hxs.now S) hxn hpn8 hxn8) ?_;clear H a
 rintro _ _ a ⟨A5, c5, B5, d5, rfl, S2⟩ H
 replace S := S.call S2;clear S2
 refine list_alloc H rfl S ze_25 ?_;clear H a S;intro b8 _ a hb8 hbw8 S H
 refine list_store H S (i := 0) rfl rfl rfl rfl sz_25 rfl rfl ?_
 clear H a S;intro _ a S H
 refine k14 _ _ ?_;clear k14 K14
 replace H := H.keep [1, 3, 5, 8] rfl
 replace S := S.drew
 refine seq_wq [(0, true), (1, true), (3, true), (4, true), (2, false), (5, false), (6, true), (7, true), (8, true), (9, true), (10, true), (11, true), (12, true)] (by kernel_rfl) (by kernel_rfl) (S.sel [0, 1, 2, 3, 4] rfl rfl) fun K15 k15 => ?_
 refine qF H <| qd rfl (fun _ S => (does_loadBox agg_25 sz_25 rfl S (i := 0) rfl rfl)) <| qr 1 rfl <| qd rfl (fun _ S => (does_field fo_48_2 rfl)) <| qd rfl (fun _ S => does_load one_3 rfl (boxM.rd S (i := 3) rfl rfl)) <| qK ?_;clear H a;intro a H
 refine wq_eff rfl ?_
 refine list_call H rfl rfl Try.func41 rfl rfl (ref_CopyDay day HA hcp DA dc _ (hday.now S) hdn (fun k hk => (hdp k hk).now S) hdl (by omega) hdl8) ?_;clear H a
 rintro _ _ a ⟨A7, c7, DA7, dc7, rfl, S2⟩ H
 replace S := S.call S2;clear S2
 refine wpList_nil (And.intro (S.sel [2, 3, 4, 5, 6] rfl rfl) ?_)
 refine wq_eff rfl ?_
 refine list_call H rfl rfl Try.func46 rfl rfl (ways_Safe pl ps A5 c5 xs B5 d5 day A7 c7 DA7 dc7 T0 _ (ownM.inS S (i := 3) rfl) hpn (ownM.inS S (i := 4) rfl) hxn (ownM.inS S (i := 1) rfl) hdn (fun k hk => ragM.inS S (i := 0) rfl hk) hdl) ?_;clear H a
 rintro _ _ a ⟨rfl, S2⟩ H
 replace S := S.call S2;clear S2
 refine wpList_nil (And.intro (S.sel [2, 3, 4, 5, 6] rfl rfl) ?_)
 refine qF H <| qr 7 rfl <| qK ?_;clear H a;intro a H
 refine wq_nil ?_
 refine k15 _ _ ?_
 clear k15 K15
 replace H := H.keep [1, 3, 5, 8, 9, 10, 11] rfl
 refine seq_list fun K16 k16 => ?_
 refine ls 4 H <| sd ((does_loadBox agg_25 sz_25 rfl S (i := 6) rfl rfl)) <| sr 1 rfl <| sf fo_48_2 rfl <| sl S 5 one_3 rfl rfl rfl <| sE ?_;clear H a;intro a H
 refine list_call H rfl rfl Try.func47 rfl rfl (ref_Safe pl ps PA pc xs XA xc day HA hcp DA dc T0 _ (hps.now S) hpn (hxs.now S) hxn (hday.now S) hdn (fun k hk => (hdp k hk).now S) hdl) ?_;clear H a
 rintro _ _ a ⟨rfl, S2⟩ H
 replace S := S.call S2;clear S2
 refine ls 7 H <| sr 7 rfl <| sE ?_;clear H a;intro a H
 refine k16 _ _ ?_;clear k16 K16
 refine wp_seq_k fun K17 k17 => ?_
 replace H := H.keep [3, 5, 8, 9, 10, 11, 12, 13, 14] rfl
 refine sS H fun K18 k18=>sr 2 rfl <| sd (does_ne_f rfl rfl rfl) <| sr 1 rfl <| sy rfl <| sr 1 rfl <| sy rfl <| sr 1 rfl <| sy rfl <| sd (does_neb_f Try.underlying4 rfl rfl rfl) <| so rfl rfl rfl <| sr 1 rfl <| sy rfl <| sr 1 rfl <| sy rfl <| sr 1 rfl <| sy rfl <| sd (does_ne_f rfl rfl rfl) <| so rfl rfl rfl <| sE ?_;clear H a;intro a H
 refine k18 _ ?_;clear k18 K18
 refine cond_ H rfl (fun hc4 => ?_) (fun hc4 => ?_)
 ·skip
  skip
  cases hc4
 skip
 refine wp_skip ?_
 refine k17 _ _ ?_
 replace H := H.keep [3, 5, 8] rfl
 replace S := S.drew
 refine seq_wq [(0, true), (1, true), (2, true), (4, true), (5, true), (7, true), (8, true), (3, false), (6, false), (9, false), (10, true), (11, true), (12, true), (13, true), (14, true)] (by kernel_rfl) (by kernel_rfl) (S.sel [0, 1, 2, 3, 4, 5, 6] rfl rfl) fun K19 k19 => ?_
 refine qF H <| qd rfl (fun _ S => (does_loadBox agg_25 sz_25 rfl S (i := 2) rfl rfl)) <| qd rfl (fun _ S => (does_field fo_48_0 rfl)) <| qd rfl (fun _ S => does_load one_3 rfl (boxM.rd S (i := 5) rfl rfl)) <| qd rfl (fun _ S => (does_field fo_48_1 rfl)) <| qd rfl (fun _ S => does_load one_23 rfl (boxM.rd S (i := 5) rfl rfl)) <| qd rfl (fun _ S => (does_field fo_48_2 rfl)) <| qd rfl (fun _ S => does_load one_3 rfl (boxM.rd S (i := 5) rfl rfl)) <| qK ?_;clear H a;intro a H
 refine wq_eff rfl ?_
 refine list_build0 H rfl S sl_23 sz_3 (icl pe) ?_;clear H a S;intro A1 _ a S H
 refine wpList_nil (And.intro (S.sel [1, 2, 3, 4, 5, 6, 7] rfl rfl) ?_)
 refine wq_eff rfl ?_
 refine list_append H rfl S sl_23 sz_3 ze_3 by_3 rfl rfl (i := 0) rfl rfl rfl ((hpe.now S)) (fun _ _ _ _ => rfl) (by omega) (by omega) ?_;clear H a S;intro A2 c2 _ a S H
 rw [Nat.zero_add] at H
 replace S := S.recell (i := 0) (n := pe.length) (cell' := icl pe) (by simp only [Nat.zero_add]; rfl) (fun k j hk hj => by unfold capp; rw [if_neg (by omega)]; rfl)
 obtain ⟨pA, rfl⟩ : ∃ y, y = A2 := ⟨_, rfl⟩
 obtain ⟨pC, rfl⟩ : ∃ y, y = c2 := ⟨_, rfl⟩
 refine wpList_nil (And.intro (S.sel [1, 2, 3, 4, 5, 6, 7] rfl rfl) ?_)
 refine wq_eff rfl ?_
 refine list_call H rfl rfl Try.func45 rfl rfl (ways_Must pl ps A5 c5 xs B5 d5 out pe pA pC T0 _ (ownM.inS S (i := 4) rfl) hpn (ownM.inS S (i := 5) rfl) hxn (ownM.inS S (i := 0) rfl) hpen) ?_;clear H a
 rintro _ _ a ⟨A8, c8, rfl, S2⟩ H
 replace S := S.call S2;clear S2
 refine wpList_nil (And.intro (S.sel [2, 3, 4, 5, 6, 7, 8] rfl rfl) ?_)
 refine qF H <| qr 5 rfl <| qK ?_;clear H a;intro a H
 refine wq_nil ?_
 refine k19 _ _ ?_
 clear k19 K19
 replace H := H.keep [3, 5, 11, 15] rfl
 refine seq_list fun K20 k20 => ?_
 refine ls 7 H <| sd ((does_loadBox agg_25 sz_25 rfl S (i := 8) rfl rfl)) <| sf fo_48_0 rfl <| sl S 7 one_3 rfl rfl rfl <| sf fo_48_1 rfl <| sl S 7 one_23 rfl rfl rfl <| sf fo_48_2 rfl <| sl S 7 one_3 rfl rfl rfl <| sE ?_;clear H a;intro a H
 refine list_call H rfl rfl Try.func48 rfl rfl (ref_Must pl ps PA pc xs XA xc out pe BA bc T0 _ (hps.now S) hpn (hxs.now S) hxn (hpe.now S) hpen) ?_;clear H a
 rintro _ _ a ⟨A9, c9, rfl, S2⟩ H
 replace S := S.call S2;clear S2
 refine ls 5 H <| sr 5 rfl <| sE ?_;clear H a;intro a H
 refine k20 _ _ ?_;clear k20 K20
 replace H := H.keep [11, 14, 15, 16] rfl
 refine seq_list fun K21 k21 => ?_
 refine ls 2 H <| sr 2 rfl <| sE ?_;clear H a;intro a H
 refine list_call H rfl rfl Try.func23 rfl rfl (law_same (mustV pl ps xs out pe T0).1 (mustV pl ps xs out pe T0).1 A8 A9 c8 c9 _ (ownM.inS S (i := 1) rfl) (ownM.inS S (i := 0) rfl) (ownM.len63 S (i := 1) rfl) (ownM.len63 S (i := 0) rfl)) ?_;clear H a
 rintro _ _ a ⟨rfl, S2⟩ H
 replace S := S.call S2;clear S2
 rw [show sameI (mustV pl ps xs out pe T0).1 (mustV pl ps xs out pe T0).1 = true from decide_eq_true rfl] at H
 refine ls 6 H <| sr 1 rfl <| sy rfl <| sr 1 rfl <| sy rfl <| sr 1 rfl <| sy rfl <| sd (does_eq_t rfl rfl rfl) <| sa rfl rfl rfl <| sr 1 rfl <| sE ?_;clear H a;intro a H
 refine list_yes H rfl rfl ?_
 refine list_call H rfl rfl Try.func15 rfl rfl (law_works _) ?_;clear H a
 rintro _ _ a ⟨rfl, S2⟩ H
 replace S := S.call S2;clear S2
 refine ls 2 H <| sa rfl rfl rfl <| sr 1 rfl <| sE ?_;clear H a;intro a H
 refine k21 _ _ ?_;clear k21 K21
 refine wp_ret ?_
 refine ret1 (fn := Try.f14) rfl H rfl ?_
 exact ⟨rfl, (S.sel [] rfl rfl)⟩

theorem law_WaysSafes {B : Nat} (pl : Int) (ps : List Psg) (PA : Option Addr) (pc : Nat) (xs : List Int) (XA : Option Addr) (xc : Nat) (dl : List Hr) (HA : Option Addr) (hcp : Nat) (out : Int) (pe : List Int) (BA : Option Addr) (bc : Nat) (T0 : Int) (w : World) (hps : InS w noF 7 PA ps.length (pcell ps)) (hpn8 : 56 * ps.length ≤ 140737488355328) (hxs : InS w noF 1 XA xs.length (icl xs)) (hxn8 : 8 * xs.length ≤ 140737488355328) (hdl0 : InS w noF 3 HA dl.length (hrcell dl)) (hd8 : 40 * dl.length ≤ 140737488355328) (hdd : ∀ k, k < dl.length → InS w noF 1 (dl.getD k Hr.zero).A (dl.getD k Hr.zero).pe.length (icl (dl.getD k Hr.zero).pe) ∧ (dl.getD k Hr.zero).pe.length * 8 ≤ 140737488351232 ∧ (dl.getD k Hr.zero).pe.length ≤ B) (hpe : InS w noF 1 BA pe.length (icl pe)) (hpe8 : 8 * pe.length ≤ 140737488355328) :
    Calls Try.prog 14 [.agg [.int .i64 pl, .slice PA ps.length pc, .slice XA xs.length xc].toArray, .slice HA dl.length hcp, .agg [.int .i64 out, .slice BA pe.length bc, .int .i64 T0].toArray].toArray w (Ret fun u w' => u = .bool true ∧ St w noF [] w') := by
  have h := lawq_WaysSafes pl ps PA pc xs XA xc (dl.map Hr.q) HA hcp (fun k => (dl.getD k Hr.zero).A) (fun k => (dl.getD k Hr.zero).c) out pe BA bc T0 w hps hpn8 hxs hxn8 (by rw [List.length_map, ← hrcell_hcl]; exact hdl0) (by rw [List.length_map]; exact hd8) (fun k hk => by rw [List.length_map] at hk; rw [hr_q]; exact (hdd k hk).1) (fun k hk => by rw [List.length_map] at hk; rw [hr_q]; have := (hdd k hk).2.1; show 8 * (dl.getD k Hr.zero).pe.length ≤ _; omega) hpe hpe8
  rw [List.length_map] at h
  exact h


end Go.Proofs.Ytlmddkekeoebcaa
