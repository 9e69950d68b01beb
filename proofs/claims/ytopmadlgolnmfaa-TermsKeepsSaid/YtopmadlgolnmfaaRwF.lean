/- RwF. Printed by gen.py. -/
import Derived.Test.YtopmadlgolnmfaaRwB
import Derived.Test.YtopmadlgolnmfaaWyK
import Derived.Test.YtopmadlgolnmfaaE2
namespace Go.Proofs.Ytopmadlgolnmfaa
open Go.RowKit
set_option linter.unusedVariables false
set_option linter.unusedSimpArgs false
set_option maxRecDepth 100000
set_option maxHeartbeats 4000000


theorem three {p : Nat → Prop} (h0 : p 0) (h1 : p 1) (h2 : p 2) : ∀ j, j < 3 → p j := by
  intro j hj
  match j, hj with
  | 0, _ => exact h0
  | 1, _ => exact h1
  | 2, _ => exact h2


theorem ref_isPeople (pl : Int) (ps : List Psg) (PA : Option Addr) (pc : Nat) (xs : List Int) (XA : Option Addr) (xc : Nat) (pe : List Int) (BA : Option Addr) (bc : Nat) (w : World) (hpe : InS w noF 1 BA pe.length (icl pe)) (hpen : pe.length ≤ 9223372036854775807) :
    Calls Try.prog 84 [.agg [.int .i64 pl, .slice PA ps.length pc, .slice XA xs.length xc].toArray, .slice BA pe.length bc].toArray w (Ret (fun v w' => v = .bool (crowdOk pl pe) ∧ St w noF [] w')) := by
 refine enter Try.func84 rfl Try.ntmps84 rfl (fun a H => ?_)
 have S := St.start w
 refine seq_list fun K1 k1 => ?_
 refine list_box H rfl S rfl rfl ?_;clear H a S;intro b2 _ a hb2 hbw2 S H
 refine ls 1 H <| sr 1 rfl <| sE ?_;clear H a;intro a H
 refine k1 _ _ ?_;clear k1 K1
 refine wp_seq_k fun K2 k2 => ?_
 refine sS H fun K3 k3=>sr 1 rfl <| sE ?_;clear H a;intro a H
 refine k3 _ ?_;clear k3 K3
 refine wp_block ?_
 refine loop_st (X := Nat) (R0 := _) [1, 2] H rfl (fun k => [(5, .int .i64 (k : Int))]) (fun k => []) (fun g k => k ≤ pe.length ∧ g + k = pe.length ∧ allN (fun k => decide (0 ≤ pe.getD k 0 ∧ pe.getD k 0 ≤ 1000)) k = true) (pe.length) 0 ?_ (S.sel [0] rfl rfl) (H.keep [5, 1, 2] rfl) ?_
 · exact ⟨by omega, by omega, rfl⟩
 clear H S a
 intro g1 x1 a w1 hp S H K4 k4
 obtain ⟨k, rfl⟩ : ∃ y, y = x1 := ⟨_, rfl⟩
 refine wp_seq_k fun K5 k5 => ?_
 refine sS H fun K6 k6=>sr 2 rfl <| sL sl_23 rfl <| sr 1 rfl <| sE ?_;clear H a;intro a H
 refine k6 _ ?_;clear k6 K6
 refine condL H rfl (fun hc1 => ?_) (fun hc1 => ?_)
 ·skip
  refine wp_skip ?_
  refine k5 _ _ ?_
  refine wp_seq_k fun K7 k7 => ?_
  refine wp_block ?_
  replace H := H.keep [1, 2, 5] rfl
  refine sS H fun K8 k8=>sr 2 rfl <| si sl_23 sz_3 rfl rfl (hpe.adr (by omega)) (by omega) <| slm one_3 rfl (hpe.rd S (by omega) (by omega)) <| sc rfl Try.func71 rfl rfl (w8ref_from _ _ _ _) <| sr 1 rfl <| sE ?_;clear H a;intro a H
  refine k8 _ ?_;clear k8 K8
  refine cond_ H rfl (fun hc2 => ?_) (fun hc2 => ?_)
  ·skip
   try simp only [o1,o2,o3,o4,o5,o6,o7,o8,o9,oa] at hc2
   refine sS H fun K9 k9=>sr 1 rfl <| sE ?_;clear H a;intro a H
   refine k9 _ ?_;clear k9 K9
   refine wp_ret ?_
   refine ret1 (fn := Try.f84) rfl H rfl ?_
   refine ⟨congrArg Value.bool ?_, (S.sel [] rfl rfl)⟩; unfold crowdOk; rw [allN_false (k := k) (by omega) (by rw [decide_eq_false_iff_not]; omega)]; rfl
  try simp only [o1,o2,o3,o4,o5,o6,o7,o8,o9,oa] at hc2
  refine wp_skip ?_
  refine k7 _ _ ?_
  replace H := H.keep [1, 2, 5] rfl
  refine sO H <| sr 1 rfl <| sd (does_add rfl rfl (by unfold i64ok; omega)) <| sr 1 rfl <| sE ?_;clear H a;intro a H
  exact k4 (g1 - 1) (k + 1) a _ (by omega) (⟨by omega, by omega, allN_step hp.2.2 (by rw [decide_eq_true_eq]; omega)⟩) (S.sel [0] rfl rfl) (H.keep [5, 1, 2] rfl)
 refine wp_exit ?_
 refine k2 _ _ ?_
 refine sS H fun K11 k11=>sr 1 rfl <| sL sl_23 rfl <| sf fo_25_0 rfl <| sl S 0 one_3 rfl rfl rfl <| sr 2 rfl <| sE ?_;clear H a;intro a H
 refine k11 _ ?_;clear k11 K11
 refine wp_ret ?_
 refine ret1 (fn := Try.f84) rfl H rfl ?_
 refine ⟨congrArg Value.bool ?_, (S.sel [] rfl rfl)⟩; unfold crowdOk; rw [show pe.length = k by omega, hp.2.2, Bool.true_and]

theorem ref_CheckDay (pl : Int) (ps : List Psg) (PA : Option Addr) (pc : Nat) (xs : List Int) (XA : Option Addr) (xc : Nat) (day : List Hq) (HA : Option Addr) (hcp : Nat) (DA : Nat → Option Addr) (dc : Nat → Nat) (w : World) (hps : InS w noF 7 PA ps.length (pcell ps)) (hpn : ps.length ≤ 9223372036854775807) (hxs : InS w noF 1 XA xs.length (icl xs)) (hxn : xs.length ≤ 9223372036854775807) (hday : InS w noF 3 HA day.length (hcl day DA dc)) (hdn : day.length ≤ 9223372036854775807) (hdp : ∀ k, k < day.length → InS w noF 1 (DA k) (day.getD k Hq.zero).pe.length (icl (day.getD k Hq.zero).pe)) (hdl : ∀ k, k < day.length → (day.getD k Hq.zero).pe.length ≤ 9223372036854775807) :
    Calls Try.prog 73 [.agg [.int .i64 pl, .slice PA ps.length pc, .slice XA xs.length xc].toArray, .slice HA day.length hcp].toArray w (Ret (fun v w' => v = .int .i64 (dayE pl ps xs day) ∧ St w noF [] w')) := by
 refine enter Try.func73 rfl Try.ntmps73 rfl (fun a H => ?_)
 have S := St.start w
 refine seq_list fun K1 k1 => ?_
 refine list_box H rfl S rfl rfl ?_;clear H a S;intro b2 _ a hb2 hbw2 S H
 refine ls 1 H <| sr 1 rfl <| sE ?_;clear H a;intro a H
 refine k1 _ _ ?_;clear k1 K1
 refine seq_list fun K2 k2 => ?_
 refine ls 1 H <| sd ((does_loadBox agg_25 sz_25 rfl S (i := 0) rfl rfl)) <| sE ?_;clear H a;intro a H
 refine list_call H rfl rfl Try.func47 rfl rfl (w8ref_Check pl ps PA pc xs XA xc _ (hps.now S) hpn (hxs.now S) hxn) ?_;clear H a
 rintro _ _ a ⟨rfl, S2⟩ H
 replace S := S.call S2;clear S2
 refine ls 1 H <| sr 1 rfl <| sE ?_;clear H a;intro a H
 refine k2 _ _ ?_;clear k2 K2
 refine wp_seq_k fun K3 k3 => ?_
 refine sS H fun K4 k4=>sr 2 rfl <| sE ?_;clear H a;intro a H
 refine k4 _ ?_;clear k4 K4
 refine condN H rfl (fun hc1 => ?_) (fun hc1 => ?_)
 ·skip
  refine sS H fun K5 k5=>sr 2 rfl <| sE ?_;clear H a;intro a H
  refine k5 _ ?_;clear k5 K5
  refine wp_ret ?_
  refine ret1 (fn := Try.f73) rfl H rfl ?_
  refine ⟨congrArg (Value.int .i64) ?_, (S.sel [] rfl rfl)⟩; unfold dayE; rw [if_pos hc1]
 have hst : stE pl ps xs = 0 := by omega
 refine wp_skip ?_
 refine k3 _ _ ?_
 refine wp_seq_k fun K6 k6 => ?_
 replace H := H.keep [1, 2] rfl
 refine sS H fun K7 k7=>sr 1 rfl <| sL sl_40 rfl <| sr 1 rfl <| sE ?_;clear H a;intro a H
 refine k7 _ ?_;clear k7 K7
 refine condL H rfl (fun hc2 => ?_) (fun hc2 => ?_)
 ·skip
  refine sS H fun K8 k8=>sr 1 rfl <| sE ?_;clear H a;intro a H
  refine k8 _ ?_;clear k8 K8
  refine wp_ret ?_
  refine ret1 (fn := Try.f73) rfl H rfl ?_
  refine ⟨congrArg (Value.int .i64) ?_, (S.sel [] rfl rfl)⟩; unfold dayE; rw [if_neg (by omega), if_neg]; unfold dayOk; rw [decide_eq_false (p := day.length ≤ 48) (by omega), Bool.and_false]; simp
 refine wp_skip ?_
 refine k6 _ _ ?_
 refine wp_seq_k fun K9 k9 => ?_
 refine sS H fun K10 k10=>sr 1 rfl <| sE ?_;clear H a;intro a H
 refine k10 _ ?_;clear k10 K10
 refine wp_block ?_
 refine loop_st (X := Nat) (R0 := _) [1, 2] H rfl (fun k => [(6, .int .i64 (k : Int))]) (fun k => []) (fun g k => k ≤ day.length ∧ g + k = day.length ∧ allN (fun k => hqOk pl (day.getD k Hq.zero)) k = true) (day.length) 0 ?_ (S.sel [0] rfl rfl) (H.keep [6, 1, 2] rfl) ?_
 · exact ⟨by omega, by omega, rfl⟩
 clear H S a
 intro g1 x1 a w1 hp S H K11 k11
 obtain ⟨k, rfl⟩ : ∃ y, y = x1 := ⟨_, rfl⟩
 refine wp_seq_k fun K12 k12 => ?_
 refine sS H fun K13 k13=>sr 2 rfl <| sL sl_40 rfl <| sr 1 rfl <| sE ?_;clear H a;intro a H
 refine k13 _ ?_;clear k13 K13
 refine condL H rfl (fun hc3 => ?_) (fun hc3 => ?_)
 ·skip
  refine wp_skip ?_
  refine k12 _ _ ?_
  refine wp_seq_k fun K14 k14 => ?_
  refine wp_block ?_
  by_cases hB : 0 ≤ (day.getD k Hq.zero).out ∧ (day.getD k Hq.zero).out ≤ 4095
  ·skip
   replace H := H.keep [1, 2, 6] rfl
   replace S := S.drew
   refine seq_wq [(0, true), (1, true), (2, true), (3, true), (4, true), (5, false), (6, true), (7, true), (8, true), (9, true), (10, true), (11, true), (12, true), (13, true), (14, false), (15, true), (16, true)] (by kernel_rfl) (by kernel_rfl) (S.sel [0] rfl rfl) fun K15 k15 => ?_
   refine qF H <| qr 2 rfl <| qd rfl (fun _ S => does_indexN sl_40 sz_42 rfl rfl (hday.adr (by omega)) (by omega)) <| qd rfl (fun _ S => (does_field_pt fo_42_0 rfl)) <| qd rfl (fun _ S => does_load one_3 rfl (hday.rd S (by omega) (by omega))) <| qK ?_;clear H a;intro a H
   refine wq_eff rfl ?_
   refine list_call H rfl rfl Try.func83 rfl rfl (ref_set _ _) ?_;clear H a
   rintro _ _ a ⟨rfl, rfl⟩ H
   rw [decide_eq_true hB.1, decide_eq_true hB.2, Bool.and_self] at H
   refine wpList_nil (And.intro (S.sel [0] rfl rfl) ?_)
   refine qF H <| qr 2 rfl <| qK ?_;clear H a;intro a H
   refine wq_yes H rfl rfl rfl rfl (fun _ S => (does_loadBox agg_25 sz_25 rfl S (i := 0) rfl rfl)) ?_;clear H a;intro a H
   refine wq_yes H rfl rfl rfl rfl (fun _ S => does_move rfl) ?_;clear H a;intro a H
   refine wq_yes H rfl rfl rfl rfl (fun _ S => does_move rfl) ?_;clear H a;intro a H
   refine wq_yes H rfl rfl rfl rfl (fun _ S => does_indexN sl_40 sz_42 rfl rfl (hday.adr (by omega)) (by omega)) ?_;clear H a;intro a H
   refine wq_yes H rfl rfl rfl rfl (fun _ S => (does_field_pt fo_42_2 rfl)) ?_;clear H a;intro a H
   refine wq_yes H rfl rfl rfl rfl (fun _ S => does_load one_23 rfl (hday.rd S (by omega) (by omega))) ?_;clear H a;intro a H
   refine wq_eff rfl ?_
   refine list_yes H rfl rfl ?_
   refine list_call H rfl rfl Try.func84 rfl rfl (ref_isPeople pl ps PA pc xs XA xc (day.getD k Hq.zero).pe (DA k) (dc k) _ ((hdp k (by omega)).now S) (hdl k (by omega))) ?_;clear H a
   rintro _ _ a ⟨rfl, S2⟩ H
   replace S := S.call S2;clear S2
   refine wpList_nil (And.intro (S.sel [0] rfl rfl) ?_)
   refine wq_yes H rfl rfl rfl rfl (fun _ S => does_not rfl) ?_;clear H a;intro a H
   refine qF H <| qd rfl (fun _ S => (does_or rfl rfl rfl)) <| qK ?_;clear H a;intro a H
   refine wq_nil ?_
   refine k15 _ _ ?_
   clear k15 K15
   refine cond_ H rfl (fun hc4 => ?_) (fun hc4 => ?_)
   ·skip
    try simp only [o1,o2,o3,o4,o5,o6,o7,o8,o9,oa] at hc4
    replace H := H.keep [] rfl
    refine sS H fun K16 k16=>sr 1 rfl <| sE ?_;clear H a;intro a H
    refine k16 _ ?_;clear k16 K16
    refine wp_ret ?_
    refine ret1 (fn := Try.f73) rfl H rfl ?_
    refine ⟨congrArg (Value.int .i64) ?_, (S.sel [] rfl rfl)⟩; unfold dayE; rw [if_neg (by omega), hqOk_not (k := k) (by omega) (by unfold hqOk; rw [hc4.resolve_left (by simp), Bool.and_false])]; rfl
   try simp only [o1,o2,o3,o4,o5,o6,o7,o8,o9,oa] at hc4
   refine wp_skip ?_
   refine k14 _ _ ?_
   refine sO H <| sr 1 rfl <| sd (does_add rfl rfl (by unfold i64ok; omega)) <| sr 1 rfl <| sE ?_;clear H a;intro a H
   exact k11 (g1 - 1) (k + 1) a _ (by omega) (⟨by omega, by omega, allN_step hp.2.2 (by unfold hqOk; rw [decide_eq_true hB, hc4.2]; rfl)⟩) (S.sel [0] rfl rfl) (H.keep [6, 1, 2] rfl)
  replace H := H.keep [1, 2, 6] rfl
  replace S := S.drew
  refine seq_wq [(0, true), (1, true), (2, true), (3, true), (4, true), (5, false), (6, true), (7, true), (8, true), (9, true), (10, true), (11, true), (12, true), (13, true), (14, true), (15, true), (16, true)] (by kernel_rfl) (by kernel_rfl) (S.sel [0] rfl rfl) fun K18 k18 => ?_
  refine qF H <| qr 2 rfl <| qd rfl (fun _ S => does_indexN sl_40 sz_42 rfl rfl (hday.adr (by omega)) (by omega)) <| qd rfl (fun _ S => (does_field_pt fo_42_0 rfl)) <| qd rfl (fun _ S => does_load one_3 rfl (hday.rd S (by omega) (by omega))) <| qK ?_;clear H a;intro a H
  refine wq_eff rfl ?_
  refine list_call H rfl rfl Try.func83 rfl rfl (ref_set _ _) ?_;clear H a
  rintro _ _ a ⟨rfl, rfl⟩ H
  rw [Bool.and_eq_false_iff.2 (by simp only [decide_eq_false_iff_not]; omega)] at H
  refine wpList_nil (And.intro (S.sel [0] rfl rfl) ?_)
  refine qF H <| qr 2 rfl <| qK ?_;clear H a;intro a H
  refine wq_no H rfl rfl rfl rfl rfl ?_;clear H a;intro a H
  refine wq_no H rfl rfl rfl rfl rfl ?_;clear H a;intro a H
  refine wq_no H rfl rfl rfl rfl rfl ?_;clear H a;intro a H
  refine wq_no H rfl rfl rfl rfl rfl ?_;clear H a;intro a H
  refine wq_no H rfl rfl rfl rfl rfl ?_;clear H a;intro a H
  refine wq_no H rfl rfl rfl rfl rfl ?_;clear H a;intro a H
  refine wq_no H rfl rfl rfl rfl rfl ?_;clear H a;intro a H
  refine wq_no H rfl rfl rfl rfl rfl ?_;clear H a;intro a H
  refine qF H <| qd rfl (fun _ S => (does_pick rfl rfl rfl)) <| qK ?_;clear H a;intro a H
  refine wq_nil ?_
  refine k18 _ _ ?_
  clear k18 K18
  refine cond_ H rfl (fun hc5 => ?_) (fun hc5 => ?_)
  ·skip
   skip
   replace H := H.keep [] rfl
   refine sS H fun K19 k19=>sr 1 rfl <| sE ?_;clear H a;intro a H
   refine k19 _ ?_;clear k19 K19
   refine wp_ret ?_
   refine ret1 (fn := Try.f73) rfl H rfl ?_
   refine ⟨congrArg (Value.int .i64) ?_, (S.sel [] rfl rfl)⟩; unfold dayE; rw [if_neg (by omega), hqOk_not (k := k) (by omega) (by unfold hqOk; rw [decide_eq_false hB]; rfl)]; rfl
  skip
  cases hc5
 refine wp_exit ?_
 refine k9 _ _ ?_
 refine sS H fun K20 k20=>sr 1 rfl <| sE ?_;clear H a;intro a H
 refine k20 _ ?_;clear k20 K20
 refine wp_ret ?_
 refine ret1 (fn := Try.f73) rfl H rfl ?_
 obtain rfl : k = day.length := by omega
 exact ⟨congrArg (Value.int .i64) (dayE_zero hst (by rw [dayOk_of hp.2.2]; exact decide_eq_true (by omega))).symm, (S.sel [] rfl rfl)⟩

theorem ref_CheckPromises (pl : Int) (ps : List Psg) (PA : Option Addr) (pc : Nat) (xs : List Int) (XA : Option Addr) (xc : Nat) (day : List Hq) (HA : Option Addr) (hcp : Nat) (DA : Nat → Option Addr) (dc : Nat → Nat) (l : List Prm) (LA : Option Addr) (lc : Nat) (w : World) (hps : InS w noF 7 PA ps.length (pcell ps)) (hpn : ps.length ≤ 9223372036854775807) (hxs : InS w noF 1 XA xs.length (icl xs)) (hxn : xs.length ≤ 9223372036854775807) (hday : InS w noF 3 HA day.length (hcl day DA dc)) (hdn : day.length ≤ 9223372036854775807) (hdp : ∀ k, k < day.length → InS w noF 1 (DA k) (day.getD k Hq.zero).pe.length (icl (day.getD k Hq.zero).pe)) (hdl : ∀ k, k < day.length → (day.getD k Hq.zero).pe.length ≤ 9223372036854775807) (hl : InS w noF 5 LA l.length (prcell l)) (hln : l.length ≤ 9223372036854775807) :
    Calls Try.prog 48 [.agg [.int .i64 pl, .slice PA ps.length pc, .slice XA xs.length xc].toArray, .slice HA day.length hcp, .slice LA l.length lc].toArray w (Ret (fun v w' => v = .int .i64 (keptE pl ps xs day l) ∧ St w noF [] w')) := by
 refine enter Try.func48 rfl Try.ntmps48 rfl (fun a H => ?_)
 have S := St.start w
 refine seq_list fun K1 k1 => ?_
 refine list_box H rfl S rfl rfl ?_;clear H a S;intro b3 _ a hb3 hbw3 S H
 refine ls 1 H <| sr 1 rfl <| sE ?_;clear H a;intro a H
 refine k1 _ _ ?_;clear k1 K1
 refine seq_list fun K2 k2 => ?_
 refine ls 2 H <| sd ((does_loadBox agg_25 sz_25 rfl S (i := 0) rfl rfl)) <| sr 1 rfl <| sE ?_;clear H a;intro a H
 refine list_call H rfl rfl Try.func73 rfl rfl (ref_CheckDay pl ps PA pc xs XA xc day HA hcp DA dc _ (hps.now S) hpn (hxs.now S) hxn (hday.now S) hdn (fun k hk => (hdp k hk).now S) hdl) ?_;clear H a
 rintro _ _ a ⟨rfl, S2⟩ H
 replace S := S.call S2;clear S2
 refine ls 1 H <| sr 1 rfl <| sE ?_;clear H a;intro a H
 refine k2 _ _ ?_;clear k2 K2
 refine wp_seq_k fun K3 k3 => ?_
 refine sS H fun K4 k4=>sr 2 rfl <| sE ?_;clear H a;intro a H
 refine k4 _ ?_;clear k4 K4
 refine condN H rfl (fun hc1 => ?_) (fun hc1 => ?_)
 ·skip
  replace H := H.keep [7] rfl
  refine sS H fun K5 k5=>sr 2 rfl <| sE ?_;clear H a;intro a H
  refine k5 _ ?_;clear k5 K5
  refine wp_ret ?_
  refine ret1 (fn := Try.f48) rfl H rfl ?_
  refine ⟨congrArg (Value.int .i64) ?_, (S.sel [] rfl rfl)⟩; unfold keptE; rw [if_pos hc1]
 have hdE : dayE pl ps xs day = 0 := by omega
 have hV := st_valid (dayE_ok hdE).1
 have hP10 := hV.size
 refine wp_skip ?_
 refine k3 _ _ ?_
 refine wp_seq_k fun K6 k6 => ?_
 refine sS H fun K7 k7=>sr 1 rfl <| sL sl_26 rfl <| sr 1 rfl <| sE ?_;clear H a;intro a H
 refine k7 _ ?_;clear k7 K7
 refine condL H rfl (fun hc2 => ?_) (fun hc2 => ?_)
 ·skip
  refine sS H fun K8 k8=>sr 1 rfl <| sE ?_;clear H a;intro a H
  refine k8 _ ?_;clear k8 K8
  refine wp_ret ?_
  refine ret1 (fn := Try.f48) rfl H rfl ?_
  exact ⟨congrArg (Value.int .i64) (keptE_prs hdE (prs_many (by omega))).symm, (S.sel [] rfl rfl)⟩
 refine wp_skip ?_
 refine k6 _ _ ?_
 refine wp_seq_k fun K9 k9 => ?_
 refine sS H fun K10 k10=>sr 1 rfl <| sE ?_;clear H a;intro a H
 refine k10 _ ?_;clear k10 K10
 refine wp_block ?_
 refine loop_st (X := Nat) (R0 := _) [2, 3] H rfl (fun k => [(8, .int .i64 (k : Int))]) (fun k => []) (fun g k => k ≤ l.length ∧ g + k = l.length ∧ allN (fun k => prmOk pl (l.getD k Prm.zero)) k = true) (l.length) 0 ?_ (S.sel [0] rfl rfl) (H.keep [8, 2, 3] rfl) ?_
 · exact ⟨by omega, by omega, rfl⟩
 clear H S a
 intro g1 x1 a w1 hp S H K11 k11
 obtain ⟨k, rfl⟩ : ∃ y, y = x1 := ⟨_, rfl⟩
 refine wp_seq_k fun K12 k12 => ?_
 refine sS H fun K13 k13=>sr 2 rfl <| sL sl_26 rfl <| sr 1 rfl <| sE ?_;clear H a;intro a H
 refine k13 _ ?_;clear k13 K13
 refine condL H rfl (fun hc3 => ?_) (fun hc3 => ?_)
 ·skip
  refine wp_skip ?_
  refine k12 _ _ ?_
  refine wp_seq_k fun K14 k14 => ?_
  refine wp_block ?_
  replace H := H.keep [2, 3, 8] rfl
  refine seq_list fun K15 k15 => ?_
  refine ls 4 H <| sr 2 rfl <| si sl_26 sz_95 rfl rfl (hl.adr (by omega)) (by omega) <| sd ((does_loadIn agg_95 sz_95 rfl S hl (by omega) (by omega))) <| sE ?_;clear H a;intro a H
  refine list_alloc H rfl S ze_95 ?_;clear H a S;intro b9 _ a hb9 hbw9 S H
  refine list_store H S (i := 0) rfl rfl rfl rfl sz_95 rfl rfl ?_
  clear H a S;intro _ a S H
  refine k15 _ _ ?_;clear k15 K15
  replace H := H.keep [2, 3, 8, 9] rfl
  refine sS H fun K16 k16=>sf fo_95_0 rfl <| sl S 0 one_3 rfl rfl rfl <| sf fo_25_0 rfl <| sl S 1 one_3 rfl rfl rfl <| sd (does_sub rfl rfl (by unfold i64ok; omega)) <| sc rfl Try.func71 rfl rfl (w8ref_from _ _ _ _) <| sr 2 rfl <| sg 7 7 36 43 false rfl rfl (fun hg8 => by
      have hq8 := hg8;try simp only [o1,o2,o3,o4,o5,o6,o7,o8,o9,oa] at hq8
      exact sy hg8 <| sf fo_95_1 rfl <| sy hg8 <| sl S 0 one_3 rfl rfl rfl <| sy hg8 <| sf fo_25_0 rfl <| sy hg8 <| sl S 1 one_3 rfl rfl rfl <| sy hg8 <| sd (does_sub rfl rfl (by unfold i64ok; omega)) <| sy hg8 <| sc rfl Try.func71 rfl rfl (w8ref_from _ _ _ _) <| sy hg8 <| sr 1 rfl <| sz 7 rfl rfl rfl) <| so rfl rfl rfl <| sr 1 rfl <| sg 6 16 45 51 false rfl rfl (fun hg17 => by
      have hq17 := hg17;try simp only [o1,o2,o3,o4,o5,o6,o7,o8,o9,oa] at hq17
      exact sy hg17 <| sf fo_95_2 rfl <| sy hg17 <| sl S 0 one_3 rfl rfl rfl <| sy hg17 <| sf fo_95_3 rfl <| sy hg17 <| sl S 0 one_3 rfl rfl rfl <| sy hg17 <| sc rfl Try.func71 rfl rfl (w8ref_from _ _ _ _) <| sy hg17 <| sr 1 rfl <| sz 6 rfl rfl rfl) <| so rfl rfl rfl <| sr 1 rfl <| sg 3 24 53 56 false rfl rfl (fun hg25 => by
      have hq25 := hg25;try simp only [o1,o2,o3,o4,o5,o6,o7,o8,o9,oa] at hq25
      exact sy hg25 <| sf fo_95_3 rfl <| sy hg25 <| sl S 0 one_3 rfl rfl rfl <| sy hg25 <| sr 1 rfl <| sz 3 rfl rfl rfl) <| so rfl rfl rfl <| sE ?_;clear H a;intro a H
  refine k16 _ ?_;clear k16 K16
  refine cond_ H rfl (fun hc4 => ?_) (fun hc4 => ?_)
  ·skip
   try simp only [o1,o2,o3,o4,o5,o6,o7,o8,o9,oa] at hc4
   replace H := H.keep [] rfl
   refine sS H fun K17 k17=>sr 1 rfl <| sE ?_;clear H a;intro a H
   refine k17 _ ?_;clear k17 K17
   refine wp_ret ?_
   refine ret1 (fn := Try.f48) rfl H rfl ?_
   exact ⟨congrArg (Value.int .i64) (keptE_prs hdE (prs_bad (k := k) (by omega) (prm_no (by omega)))).symm, (S.sel [] rfl rfl)⟩
  try simp only [o1,o2,o3,o4,o5,o6,o7,o8,o9,oa] at hc4
  refine wp_skip ?_
  refine k14 _ _ ?_
  refine sO H <| sr 1 rfl <| sd (does_add rfl rfl (by unfold i64ok; omega)) <| sr 1 rfl <| sE ?_;clear H a;intro a H
  exact k11 (g1 - 1) (k + 1) a _ (by omega) (⟨by omega, by omega, allN_step hp.2.2 (prmOk_iff.2 (by omega))⟩) (S.sel [1] rfl rfl) (H.keep [8, 2, 3] rfl)
 refine wp_exit ?_
 refine k9 _ _ ?_
 refine sS H fun K19 k19=>sr 1 rfl <| sE ?_;clear H a;intro a H
 refine k19 _ ?_;clear k19 K19
 refine wp_ret ?_
 refine ret1 (fn := Try.f48) rfl H rfl ?_
 obtain rfl : k = l.length := by omega
 exact ⟨congrArg (Value.int .i64) (keptE_zero hdE (prs_all hp.2.2 (by omega))).symm, (S.sel [] rfl rfl)⟩

end Go.Proofs.Ytopmadlgolnmfaa
