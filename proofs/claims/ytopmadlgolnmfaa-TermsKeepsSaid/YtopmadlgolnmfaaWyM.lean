/- WyM. Printed by gen.py. -/
import Derived.Test.YtopmadlgolnmfaaWyK
import Derived.Test.YtopmadlgolnmfaaWyI
import Derived.Test.YtopmadlgolnmfaaMus
import Derived.Sort.OwnSortedInts
namespace Go.Proofs.Ytopmadlgolnmfaa
open Go.RowKit
set_option linter.unusedVariables false
set_option linter.unusedSimpArgs false
set_option maxRecDepth 100000
set_option maxHeartbeats 4000000


theorem ways_Safe (pl : Int) (ps : List Psg) (PA : Option Addr) (pc : Nat) (xs : List Int) (XA : Option Addr) (xc : Nat) (day : List Hq) (HA : Option Addr) (hcp : Nat) (DA : Nat → Option Addr) (dc : Nat → Nat) (T0 : Int) (w : World) (hps : InS w noF 7 PA ps.length (pcell ps)) (hpn : ps.length ≤ 9223372036854775807) (hxs : InS w noF 1 XA xs.length (icl xs)) (hxn : xs.length ≤ 9223372036854775807) (hday : InS w noF 3 HA day.length (hcl day DA dc)) (hdn : day.length ≤ 9223372036854775807) (hdp : ∀ k, k < day.length → InS w noF 1 (DA k) (day.getD k Hq.zero).pe.length (icl (day.getD k Hq.zero).pe)) (hdl : ∀ k, k < day.length → (day.getD k Hq.zero).pe.length ≤ 9223372036854775807) :
    Calls Try.prog 14 [.agg [.int .i64 pl, .slice PA ps.length pc, .slice XA xs.length xc].toArray, .slice HA day.length hcp, .int .i64 T0].toArray w (Ret (fun u w' => u = .tuple #[.int .i64 (safeV pl ps xs day T0).1, .bool (safeV pl ps xs day T0).2.1, .int .i64 (safeV pl ps xs day T0).2.2] ∧ St w noF [] w')) := by
 refine enter Try.func14 rfl Try.ntmps14 rfl (fun a H => ?_)
 have S := St.start w
 refine seq_list fun K1 k1 => ?_
 refine list_box H rfl S rfl rfl ?_;clear H a S;intro b3 _ a hb3 hbw3 S H
 refine ls 3 H <| sr 3 rfl <| sE ?_;clear H a;intro a H
 refine k1 _ _ ?_;clear k1 K1
 refine wp_seq_k fun K2 k2 => ?_
 refine seq_list fun K3 k3 => ?_
 refine ls 1 H <| sd ((does_loadBox agg_25 sz_25 rfl S (i := 0) rfl rfl)) <| sE ?_;clear H a;intro a H
 refine list_call H rfl rfl Try.func40 rfl rfl (ways_Check pl ps PA pc xs XA xc _ (hps.now S) hpn (hxs.now S) hxn) ?_;clear H a
 rintro _ _ a ⟨rfl, S2⟩ H
 replace S := S.call S2;clear S2
 refine ls 1 H <| sr 1 rfl <| sE ?_;clear H a;intro a H
 refine k3 _ _ ?_;clear k3 K3
 refine sS H fun K4 k4=>sr 2 rfl <| sE ?_;clear H a;intro a H
 refine k4 _ ?_;clear k4 K4
 refine condN H rfl (fun hc1 => ?_) (fun hc1 => ?_)
 ·skip
  replace H := H.keep [8] rfl
  refine sS H fun K5 k5=>sr 4 rfl <| sE ?_;clear H a;intro a H
  refine k5 _ ?_;clear k5 K5
  refine wp_ret ?_
  refine ret3 (fn := Try.f14) rfl H rfl rfl rfl ?_
  have e9 : dayE pl ps xs day = stE pl ps xs := by unfold dayE; rw [if_pos hc1]
  rw [safe_err (by rw [e9]; exact hc1), e9]
  exact ⟨rfl, (S.sel [] rfl rfl)⟩
 have hst : stE pl ps xs = 0 := by omega
 have hV0 := st_valid hst
 obtain ⟨P, rfl⟩ : ∃ P : Nat, pl = P := ⟨pl.toNat, by have := hV0.size; omega⟩
 have hV := hV0
 have hP10 := hV.size
 refine wp_skip ?_
 refine k2 _ _ ?_
 refine wp_seq_k fun K6 k6 => ?_
 refine seq_list fun K7 k7 => ?_
 refine ls 2 H <| sd ((does_loadBox agg_25 sz_25 rfl S (i := 0) rfl rfl)) <| sr 1 rfl <| sE ?_;clear H a;intro a H
 refine list_call H rfl rfl Try.func41 rfl rfl (ways_hours P ps PA pc xs XA xc day HA hcp DA dc _ (hps.now S) hpn (hxs.now S) hxn (hday.now S) hdn (fun k hk => (hdp k hk).now S) hdl) ?_;clear H a
 rintro _ _ a ⟨rfl, S2⟩ H
 replace S := S.call S2;clear S2
 refine ls 1 H <| sr 1 rfl <| sE ?_;clear H a;intro a H
 refine k7 _ _ ?_;clear k7 K7
 refine cond_ H rfl (fun hc2 => ?_) (fun hc2 => ?_)
 ·skip
  try simp only [o1,o2,o3,o4,o5,o6,o7,o8,o9,oa] at hc2
  replace H := H.keep [] rfl
  refine sS H fun K8 k8=>sr 3 rfl <| sE ?_;clear H a;intro a H
  refine k8 _ ?_;clear k8 K8
  refine wp_ret ?_
  refine ret3 (fn := Try.f14) rfl H rfl rfl rfl ?_
  have e9 : dayE P ps xs day = 81 := by unfold dayE; rw [if_neg (by omega), if_neg (by rw [hc2]; simp)]
  rw [safe_err (by rw [e9]; decide), e9]
  exact ⟨rfl, (S.sel [] rfl rfl)⟩
 try simp only [o1,o2,o3,o4,o5,o6,o7,o8,o9,oa] at hc2
 have hdE := dayE_zero hst hc2
 have hdk := dayOk_ok hc2
 refine wp_skip ?_
 refine k6 _ _ ?_
 refine wp_seq_k fun K9 k9 => ?_
 refine sS H fun K10 k10=>sr 1 rfl <| sc rfl Try.func42 rfl rfl (ways_within _ _ _ _) <| sr 1 rfl <| sE ?_;clear H a;intro a H
 refine k10 _ ?_;clear k10 K10
 refine cond_ H rfl (fun hc3 => ?_) (fun hc3 => ?_)
 ·skip
  try simp only [o1,o2,o3,o4,o5,o6,o7,o8,o9,oa] at hc3
  refine sS H fun K11 k11=>sr 3 rfl <| sE ?_;clear H a;intro a H
  refine k11 _ ?_;clear k11 K11
  refine wp_ret ?_
  refine ret3 (fn := Try.f14) rfl H rfl rfl rfl ?_
  rw [safe_arg hdE (by omega)]
  exact ⟨rfl, (S.sel [] rfl rfl)⟩
 try simp only [o1,o2,o3,o4,o5,o6,o7,o8,o9,oa] at hc3
 obtain ⟨T, rfl⟩ : ∃ T : Nat, T0 = T := ⟨T0.toNat, by omega⟩
 have hT : T ≤ 60 := by omega
 refine wp_skip ?_
 refine k9 _ _ ?_
 refine wp_seq_k fun K12 k12 => ?_
 replace H := H.keep [1, 2, 3] rfl
 refine sS H fun K13 k13=>sr 1 rfl <| sL sl_40 rfl <| sr 1 rfl <| sE ?_;clear H a;intro a H
 refine k13 _ ?_;clear k13 K13
 refine wp_block ?_
 refine loop_st (X := Nat) (R0 := _) [2, 3, 23, 24] H rfl (fun k => [(25, .int .i64 (k : Int))]) (fun k => []) (fun g k => k ≤ day.length ∧ g + k = day.length ∧ ∀ q, q < k → allB P T ps xs (day.getD q Hq.zero).out (day.getD q Hq.zero).pe = true) (day.length) 0 ?_ (S.sel [0] rfl rfl) (H.keep [25, 2, 3, 23, 24] rfl) ?_
 · exact ⟨by omega, by omega, fun q hq => absurd hq (Nat.not_lt_zero q)⟩
 clear H S a
 intro g1 x1 a w1 hp S H K14 k14
 obtain ⟨k, rfl⟩ : ∃ y, y = x1 := ⟨_, rfl⟩
 refine sS H fun K15 k15=>sr 1 rfl <| sE ?_;clear H a;intro a H
 refine k15 _ ?_;clear k15 K15
 refine wp_seq_k fun K16 k16 => ?_
 refine condL H rfl (fun hc4 => ?_) (fun hc4 => ?_)
 ·skip
  refine wp_skip ?_
  refine k16 _ _ ?_
  refine wp_seq_k fun K17 k17 => ?_
  refine wp_block ?_
  refine seq_list fun K18 k18 => ?_
  refine ls 2 H <| sr 1 rfl <| si sl_40 sz_42 rfl rfl (hday.adr (by omega)) (by omega) <| sE ?_;clear H a;intro a H
  refine list_does H rfl ((by first | (exact does_loadIn agg_42 sz_42 rfl S hday (by omega) (by omega); trace "ALT ways_Safe 10.2.1 0") | (exact does_loadBox agg_42 sz_42 rfl S (i := 0) rfl rfl; trace "ALT ways_Safe 10.2.1 1"))) ?_;clear H a;intro a H
  refine list_alloc H rfl S ze_42 ?_;clear H a S;intro b10 _ a hb10 hbw10 S H
  refine ls 1 H <| sr 1 rfl <| sE ?_;clear H a;intro a H
  first | (refine list_store H S (i := 0) rfl rfl rfl rfl sz_42 rfl rfl ?_; trace "ALT ways_Safe 10.5.1 0") | (refine list_store H S (i := 1) rfl rfl rfl rfl sz_42 rfl rfl ?_; trace "ALT ways_Safe 10.5.1 1") | (refine list_store_own H S (i := 0) rfl rfl rfl (by omega) (by omega) sz_42 rfl ?_; trace "ALT ways_Safe 10.5.1 2") | (refine list_store_own H S (i := 1) rfl rfl rfl (by omega) (by omega) sz_42 rfl ?_; trace "ALT ways_Safe 10.5.1 3")
  clear H a S;intro _ a S H
  refine k18 _ _ ?_;clear k18 K18
  have hdo := hdk.2 k (by omega)
  obtain ⟨hpp, hpl⟩ := crowd_ok hdo.2
  replace H := H.keep [2, 3, 9, 10, 23, 24, 25] rfl
  refine seq_list fun K19 k19 => ?_
  refine ls 1 H <| sd ((does_loadBox agg_25 sz_25 rfl S (i := 1) rfl rfl)) <| sE ?_;clear H a;intro a H
  refine list_does H rfl ((by first | (exact does_field_pt fo_42_0 rfl; trace "ALT ways_Safe 11.1.1 0") | (exact does_field fo_42_0 rfl; trace "ALT ways_Safe 11.1.1 1"))) ?_;clear H a;intro a H
  refine ls 1 H <| sl S 0 one_3 rfl rfl rfl <| sE ?_;clear H a;intro a H
  refine list_does H rfl ((by first | (exact does_field_pt fo_42_2 rfl; trace "ALT ways_Safe 11.3.1 0") | (exact does_field fo_42_2 rfl; trace "ALT ways_Safe 11.3.1 1"))) ?_;clear H a;intro a H
  refine ls 2 H <| sl S 0 one_23 rfl rfl rfl <| sr 1 rfl <| sE ?_;clear H a;intro a H
  refine list_call H rfl rfl Try.func43 rfl rfl (ways_all P T ps PA pc xs XA xc (day.getD k Hq.zero).out (day.getD k Hq.zero).pe (DA k) (dc k) _ (hps.now S) hpn (hxs.now S) hxn ((hdp k (by omega)).now S) (by omega) hV hdo.1 hpp hT) ?_;clear H a
  rintro _ _ a ⟨rfl, S2⟩ H
  replace S := S.call S2;clear S2
  refine ls 1 H <| sr 1 rfl <| sE ?_;clear H a;intro a H
  refine k19 _ _ ?_;clear k19 K19
  refine cond_ H rfl (fun hc5 => ?_) (fun hc5 => ?_)
  ·skip
   try simp only [o1,o2,o3,o4,o5,o6,o7,o8,o9,oa] at hc5
   replace H := H.keep [9] rfl
   refine sS H fun K20 k20=>sr 4 rfl <| sE ?_;clear H a;intro a H
   refine k20 _ ?_;clear k20 K20
   refine wp_ret ?_
   refine ret3 (fn := Try.f14) rfl H rfl rfl rfl ?_
   rw [safe_at hdE hT (by omega) hp.2.2 (decide_eq_false hc5)]
   exact ⟨rfl, (S.sel [] rfl rfl)⟩
  try simp only [o1,o2,o3,o4,o5,o6,o7,o8,o9,oa] at hc5
  refine wp_skip ?_
  refine k17 _ _ ?_
  refine sO H <| sd (does_add rfl rfl (by unfold i64ok; omega)) <| sr 1 rfl <| sE ?_;clear H a;intro a H
  exact k14 (g1 - 1) (k + 1) a _ (by omega) (⟨by omega, by omega, safe_next (f := fun q => allB P T ps xs (day.getD q Hq.zero).out (day.getD q Hq.zero).pe) hp.2.2 (decide_eq_true hc5)⟩) (S.sel [1] rfl rfl) (H.keep [25, 2, 3, 23, 24] rfl)
 refine wp_exit ?_
 refine k12 _ _ ?_
 refine sS H fun K22 k22=>sr 3 rfl <| sE ?_;clear H a;intro a H
 refine k22 _ ?_;clear k22 K22
 refine wp_ret ?_
 refine ret3 (fn := Try.f14) rfl H rfl rfl rfl ?_
 obtain rfl : k = day.length := by omega
 rw [safe_all hdE hT hp.2.2]
 exact ⟨rfl, (S.sel [] rfl rfl)⟩

end Go.Proofs.Ytopmadlgolnmfaa
