/- LtB. Printed by gen.py. -/
import Derived.Test.YtopmadlgolnmfaaLtA
import Derived.Test.YtopmadlgolnmfaaTrA
import Derived.Test.YtopmadlgolnmfaaH2
namespace Go.Proofs.Ytopmadlgolnmfaa
open Go.RowKit
set_option linter.unusedVariables false
set_option linter.unusedSimpArgs false
set_option maxRecDepth 100000
set_option maxHeartbeats 4000000


def crwV (pl : Int) (ps : List Psg) (xs : List Int) (pe : List Int) (T0 : Int) : Bool := if 26 < ps.length ∨ 12 < pe.length then true else if leaveE pl ps xs 0 pe T0 ≠ 0 then false else (decide (12 < ps.length) || decide (60 < sumI pe pe.length)) || decide (14 < T0)
section
variable {pl T0 : Int} {ps : List Psg} {xs pe : List Int}
theorem crw_many (h : 26 < ps.length ∨ 12 < pe.length) : crwV pl ps xs pe T0 = true := by unfold crwV; rw [if_pos h]
theorem crw_err (h : ¬ (26 < ps.length ∨ 12 < pe.length)) (h2 : ¬ leaveE pl ps xs 0 pe T0 = 0) : crwV pl ps xs pe T0 = false := by unfold crwV; rw [if_neg h, if_pos h2]
theorem crw_ok (h : ¬ (26 < ps.length ∨ 12 < pe.length)) (h2 : leaveE pl ps xs 0 pe T0 = 0) : crwV pl ps xs pe T0 = ((decide (12 < ps.length) || decide (60 < sumI pe pe.length)) || decide (14 < T0)) := by unfold crwV; rw [if_neg h, if_neg (fun h9 => h9 h2)]
end
theorem lng4 (A B : Prop) (c : Bool) [Decidable A] [Decidable B] : ¬ A ∨ (A ∧ c = true) ∨ (A ∧ c = false ∧ B) ∨ (A ∧ c = false ∧ ¬ B) := by
  by_cases hA : A <;> by_cases hB : B <;> cases c <;> simp [hA, hB]


theorem law_CrowdV (pl : Int) (ps : List Psg) (PA : Option Addr) (pc : Nat) (xs : List Int) (XA : Option Addr) (xc : Nat) (pe : List Int) (BA : Option Addr) (bc : Nat) (T0 : Int) (w : World) (hps : InS w noF 7 PA ps.length (pcell ps)) (hpn : ps.length ≤ 9223372036854775807) (hxs : InS w noF 1 XA xs.length (icl xs)) (hxn : xs.length ≤ 9223372036854775807) (hpe : InS w noF 1 BA pe.length (icl pe)) (hpen : pe.length ≤ 9223372036854775807) :
    Calls Try.prog 32 [.agg [.int .i64 pl, .slice PA ps.length pc, .slice XA xs.length xc].toArray, .slice BA pe.length bc, .int .i64 T0].toArray w (Ret (fun u w' => u = .bool (crwV pl ps xs pe T0) ∧ St w noF [] w')) := by
 refine enter Try.func32 rfl Try.ntmps32 rfl (fun a H => ?_)
 have S := St.start w
 refine seq_list fun K1 k1 => ?_
 refine list_box H rfl S rfl rfl ?_;clear H a S;intro b3 _ a hb3 hbw3 S H
 refine ls 1 H <| sr 1 rfl <| sE ?_;clear H a;intro a H
 refine k1 _ _ ?_;clear k1 K1
 refine wp_seq_k fun K2 k2 => ?_
 replace H := H.keep [1, 2, 3] rfl
 refine sS H fun K3 k3=>sf fo_25_1 rfl <| sl S 0 one_22 rfl rfl rfl <| sL sl_22 rfl <| sr 2 rfl <| sg 3 4 13 16 false rfl rfl (fun hg5 => sy hg5 <| sr 1 rfl <| sy hg5 <| sL sl_23 rfl <| sy hg5 <| sr 1 rfl <| sz 3 rfl rfl rfl) <| so rfl rfl rfl <| sE ?_;clear H a;intro a H
 refine k3 _ ?_;clear k3 K3
 refine cond_ H rfl (fun hc1 => ?_) (fun hc1 => ?_)
 ·skip
  try simp only [o1,o2,o3,o4,o5,o6,o7,o8,o9,oa] at hc1
  replace H := H.keep [] rfl
  refine sS H fun K4 k4=>sr 1 rfl <| sE ?_;clear H a;intro a H
  refine k4 _ ?_;clear k4 K4
  refine wp_ret ?_
  refine ret1 (fn := Try.f32) rfl H rfl ?_
  exact ⟨by rw [crw_many (by omega)], (S.sel [] rfl rfl)⟩
 try simp only [o1,o2,o3,o4,o5,o6,o7,o8,o9,oa] at hc1
 refine wp_skip ?_
 refine k2 _ _ ?_
 refine wp_seq_k fun K5 k5 => ?_
 refine seq_list fun K6 k6 => ?_
 refine ls 3 H <| sd ((does_loadBox agg_25 sz_25 rfl S (i := 0) rfl rfl)) <| sr 2 rfl <| sE ?_;clear H a;intro a H
 refine list_call H rfl rfl Try.func58 rfl rfl (ref_CheckLeave pl ps PA pc xs XA xc 0 pe BA bc T0 _ (hps.now S) hpn (hxs.now S) hxn (hpe.now S) hpen) ?_;clear H a
 rintro _ _ a ⟨rfl, S2⟩ H
 replace S := S.call S2;clear S2
 refine ls 1 H <| sr 1 rfl <| sE ?_;clear H a;intro a H
 refine k6 _ _ ?_;clear k6 K6
 refine condN H rfl (fun hc2 => ?_) (fun hc2 => ?_)
 ·skip
  refine sS H fun K7 k7=>sr 1 rfl <| sE ?_;clear H a;intro a H
  refine k7 _ ?_;clear k7 K7
  refine wp_ret ?_
  refine ret1 (fn := Try.f32) rfl H rfl ?_
  exact ⟨by rw [crw_err (by omega) hc2], (S.sel [] rfl rfl)⟩
 obtain ⟨hst, hou, hcr, hti⟩ := leaveE_ok (show leaveE pl ps xs 0 pe T0 = 0 by omega)
 obtain ⟨hpp, hpl'⟩ := crowd_ok hcr
 refine wp_skip ?_
 refine k5 _ _ ?_
 refine sS H fun K8 k8=>sr 1 rfl <| sE ?_;clear H a;intro a H
 refine k8 _ ?_;clear k8 K8
 refine wp_seq_k fun K9 k9 => ?_
 refine sS H fun K10 k10=>sr 1 rfl <| sE ?_;clear H a;intro a H
 refine k10 _ ?_;clear k10 K10
 refine wp_block ?_
 refine loop_st (X := Nat) (R0 := _) [1, 2, 3] H rfl (fun k => [(7, .int .i64 (sumI pe k)), (8, .int .i64 (k : Int))]) (fun k => []) (fun g k => k ≤ pe.length ∧ g + k = pe.length) (pe.length) 0 ?_ (S.sel [0] rfl rfl) (H.keep [7, 8, 1, 2, 3] rfl) ?_
 · exact ⟨by omega, by omega⟩
 clear H S a
 intro g1 x1 a w1 hp S H K11 k11
 obtain ⟨k, rfl⟩ : ∃ y, y = x1 := ⟨_, rfl⟩
 refine wp_seq_k fun K12 k12 => ?_
 refine sS H fun K13 k13=>sr 2 rfl <| sL sl_23 rfl <| sr 1 rfl <| sE ?_;clear H a;intro a H
 refine k13 _ ?_;clear k13 K13
 refine condL H rfl (fun hc3 => ?_) (fun hc3 => ?_)
 ·skip
  refine wp_skip ?_
  refine k12 _ _ ?_
  refine wp_seq_k fun K14 k14 => ?_
  refine wp_block ?_
  have hsb := sum_bd hpp (by omega) (k := k) (by omega); have hsk := hpp k (by omega)
  replace H := H.keep [1, 2, 3, 7, 8] rfl
  refine sO H <| sr 3 rfl <| si sl_23 sz_3 rfl rfl (hpe.adr (by omega)) (by omega) <| slm one_3 rfl (hpe.rd S (by omega) (by omega)) <| sd (does_add rfl rfl (by unfold i64ok; omega)) <| sr 1 rfl <| sE ?_;clear H a;intro a H
  refine k14 _ _ ?_
  replace H := H.keep [1, 2, 3, 7, 8] rfl
  refine sO H <| sr 1 rfl <| sd (does_add rfl rfl (by unfold i64ok; omega)) <| sr 1 rfl <| sE ?_;clear H a;intro a H
  exact k11 (g1 - 1) (k + 1) a _ (by omega) (⟨by omega, by omega⟩) (S.sel [0] rfl rfl) (H.keep [7, 8, 1, 2, 3] rfl)
 refine wp_exit ?_
 refine k9 _ _ ?_
 replace H := H.keep [2, 3, 7] rfl
 refine sS H fun K17 k17=>sf fo_25_1 rfl <| sl S 0 one_22 rfl rfl rfl <| sL sl_22 rfl <| sr 2 rfl <| sg 2 4 39 41 false rfl rfl (fun hg5 => sy hg5 <| sr 1 rfl <| sy hg5 <| sr 1 rfl <| sz 2 rfl rfl rfl) <| so rfl rfl rfl <| sr 1 rfl <| sg 2 8 43 45 false rfl rfl (fun hg9 => sy hg9 <| sr 1 rfl <| sy hg9 <| sr 1 rfl <| sz 2 rfl rfl rfl) <| so rfl rfl rfl <| sr 1 rfl <| sE ?_;clear H a;intro a H
 refine k17 _ ?_;clear k17 K17
 refine wp_ret ?_
 refine ret1 (fn := Try.f32) rfl H rfl ?_
 obtain rfl : k = pe.length := by omega
 exact ⟨by rw [crw_ok (by omega) (by omega)]; congr 1; simp only [Bool.or_assoc]; congr 1; simp only [decide_eq_decide]; omega, (S.sel [] rfl rfl)⟩

theorem law12_Long (y : Yr) (w : World) (hy : YIn w noF y) (hyb : YBd y) :
    Calls Try.prog 9 [.agg [.int .i64 y.days, .int .i64 y.pl, .slice y.PA y.ps.length y.pc, .slice y.XA y.xs.length y.xc, .slice y.BA y.pe.length y.bc, .int .i64 y.limit, .bool y.help, .slice y.QA y.prs.length y.qc, .slice y.VA y.us.length y.vc, .int .i64 y.crew, .slice y.SA y.sps.length y.sc].toArray].toArray w (Ret (fun u w' => ∃ b, u = .bool b ∧ (b = false → (y.ps.length ≤ 26 ∧ y.us.length ≤ 8) ∧ (yearE y = 0 → y.days ≤ 6 ∧ y.us.length ≤ 3 ∧ crwV y.pl y.ps y.xs y.pe y.limit = false)) ∧ St w noF [] w')) := by
 have hn1 := hyb.psn; have hn2 := hyb.prn; have hn3 := hyb.usn; have hn4 := hyb.spn
 refine enter Try.func9 rfl Try.ntmps9 rfl (fun a H => ?_)
 have S := St.start w
 refine seq_list fun K1 k1 => ?_
 refine list_box H rfl S rfl rfl ?_;clear H a S;intro b1 _ a hb1 hbw1 S H
 refine ls 1 H <| sr 1 rfl <| sE ?_;clear H a;intro a H
 refine k1 _ _ ?_;clear k1 K1
 refine wp_seq_k fun K2 k2 => ?_
 replace H := H.keep [1] rfl
 refine sS H fun K3 k3=>sf fo_30_1 rfl <| sf fo_25_1 rfl <| sl S 0 one_22 rfl rfl rfl <| sL sl_22 rfl <| sr 2 rfl <| sg 4 5 8 12 false rfl rfl (fun hg6 => sy hg6 <| sf fo_30_5 rfl <| sy hg6 <| sl S 0 one_26 rfl rfl rfl <| sy hg6 <| sL sl_26 rfl <| sy hg6 <| sr 1 rfl <| sz 4 rfl rfl rfl) <| so rfl rfl rfl <| sr 1 rfl <| sg 4 11 14 18 false rfl rfl (fun hg12 => sy hg12 <| sf fo_30_6 rfl <| sy hg12 <| sl S 0 one_27 rfl rfl rfl <| sy hg12 <| sL sl_27 rfl <| sy hg12 <| sr 1 rfl <| sz 4 rfl rfl rfl) <| so rfl rfl rfl <| sr 1 rfl <| sg 4 17 20 24 false rfl rfl (fun hg18 => sy hg18 <| sf fo_30_8 rfl <| sy hg18 <| sl S 0 one_28 rfl rfl rfl <| sy hg18 <| sL sl_28 rfl <| sy hg18 <| sr 1 rfl <| sz 4 rfl rfl rfl) <| so rfl rfl rfl <| sE ?_;clear H a;intro a H
 refine k3 _ ?_;clear k3 K3
 refine cond_ H rfl (fun hc1 => ?_) (fun hc1 => ?_)
 ·skip
  try simp only [o1,o2,o3,o4,o5,o6,o7,o8,o9,oa] at hc1
  replace H := H.keep [] rfl
  refine sS H fun K4 k4=>sr 1 rfl <| sE ?_;clear H a;intro a H
  refine k4 _ ?_;clear k4 K4
  refine wp_ret ?_
  refine ret1 (fn := Try.f9) rfl H rfl ?_
  exact ⟨_, rfl, (fun h => by cases h), (S.sel [] rfl rfl)⟩
 try simp only [o1,o2,o3,o4,o5,o6,o7,o8,o9,oa] at hc1
 refine wp_skip ?_
 refine k2 _ _ ?_
 rcases lng4 (yearE y = 0) (6 < y.days) (crwV y.pl y.ps y.xs y.pe y.limit) with hB | hB | hB | hB
 ·skip
  skip
  replace H := H.keep [1] rfl
  refine seq_list fun K5 k5 => ?_
  refine ls 1 H <| sd ((does_loadBox agg_30 sz_30 rfl S (i := 0) rfl rfl)) <| sE ?_;clear H a;intro a H
  refine list_call H rfl rfl Try.func19 rfl rfl (rt_CheckYear y _ (hy.now S) hyb) ?_;clear H a
  rintro _ _ a ⟨rfl, S2⟩ H
  replace S := S.call S2;clear S2
  refine ls 10 H <| sd ((does_eql rfl rfl).to (congrArg Value.bool (decide_eq_false hB))) <| sr 1 rfl <| sn rfl rfl rfl <| sn rfl rfl rfl <| sn rfl rfl rfl <| sn rfl rfl rfl <| sn rfl rfl rfl <| sn rfl rfl rfl <| sn rfl rfl rfl <| sn rfl rfl rfl <| sE ?_;clear H a;intro a H
  refine list_un H rfl rfl rfl ?_;clear H a;intro a H
  refine list_un H rfl rfl rfl ?_;clear H a;intro a H
  refine list_un H rfl rfl rfl ?_;clear H a;intro a H
  refine ls 2 H <| sn rfl rfl rfl <| sn rfl rfl rfl <| sE ?_;clear H a;intro a H
  refine list_un H rfl rfl rfl ?_;clear H a;intro a H
  refine list_un H rfl rfl rfl ?_;clear H a;intro a H
  refine list_un H rfl rfl rfl ?_;clear H a;intro a H
  refine list_un H rfl rfl rfl ?_;clear H a;intro a H
  refine ls 3 H <| sn rfl rfl rfl <| sd ((does_pick rfl rfl rfl)) <| sr 1 rfl <| sE ?_;clear H a;intro a H
  refine k5 _ _ ?_;clear k5 K5
  refine wp_ret ?_
  refine ret1 (fn := Try.f9) rfl H rfl ?_
  first | exact ⟨_, rfl, (fun _ => ⟨⟨by omega, by omega⟩, fun h => absurd h hB⟩), (S.sel [] rfl rfl)⟩ | exact ⟨_, rfl, (fun h => by cases h), (S.sel [] rfl rfl)⟩ | exact ⟨_, rfl, (fun h => ⟨⟨by omega, by omega⟩, fun h9 => ⟨by omega, by have := of_decide_eq_false h; omega, hB.2.1⟩⟩), (S.sel [] rfl rfl)⟩
 ·skip
  skip
  replace H := H.keep [1] rfl
  refine seq_list fun K6 k6 => ?_
  refine ls 1 H <| sd ((does_loadBox agg_30 sz_30 rfl S (i := 0) rfl rfl)) <| sE ?_;clear H a;intro a H
  refine list_call H rfl rfl Try.func19 rfl rfl (rt_CheckYear y _ (hy.now S) hyb) ?_;clear H a
  rintro _ _ a ⟨rfl, S2⟩ H
  replace S := S.call S2;clear S2
  refine ls 8 H <| sd ((does_eql rfl rfl).to (congrArg Value.bool (decide_eq_true hB.1))) <| sr 1 rfl <| sy rfl <| sf fo_30_1 rfl <| sy rfl <| sd ((does_loadBox agg_25 sz_25 rfl S (i := 0) rfl rfl)) <| sy rfl <| sf fo_30_2 rfl <| sy rfl <| sl S 0 one_23 rfl rfl rfl <| sy rfl <| sf fo_30_3 rfl <| sy rfl <| sl S 0 one_3 rfl rfl rfl <| sE ?_;clear H a;intro a H
  refine list_yes H rfl rfl ?_
  refine list_call H rfl rfl Try.func32 rfl rfl (law_CrowdV y.pl y.ps y.PA y.pc y.xs y.XA y.xc y.pe y.BA y.bc y.limit _ (hy.ps.now S) hyb.psn (hy.xs.now S) hyb.xsn (hy.pe.now S) hyb.pen) ?_;clear H a
  rintro _ _ a ⟨rfl, S2⟩ H
  replace S := S.call S2;clear S2
  rw [hB.2] at H
  refine ls 13 H <| sy rfl <| sr 1 rfl <| sn rfl rfl rfl <| sn rfl rfl rfl <| sn rfl rfl rfl <| sy rfl <| sd ((does_pick rfl rfl rfl)) <| sy rfl <| sr 1 rfl <| sn rfl rfl rfl <| sn rfl rfl rfl <| sn rfl rfl rfl <| sn rfl rfl rfl <| sy rfl <| sd ((does_pick rfl rfl rfl)) <| sa rfl rfl rfl <| sr 1 rfl <| sE ?_;clear H a;intro a H
  refine k6 _ _ ?_;clear k6 K6
  refine wp_ret ?_
  refine ret1 (fn := Try.f9) rfl H rfl ?_
  first | exact ⟨_, rfl, (fun _ => ⟨⟨by omega, by omega⟩, fun h => absurd h hB⟩), (S.sel [] rfl rfl)⟩ | exact ⟨_, rfl, (fun h => by cases h), (S.sel [] rfl rfl)⟩ | exact ⟨_, rfl, (fun h => ⟨⟨by omega, by omega⟩, fun h9 => ⟨by omega, by have := of_decide_eq_false h; omega, hB.2.1⟩⟩), (S.sel [] rfl rfl)⟩
 ·skip
  skip
  replace H := H.keep [1] rfl
  refine seq_list fun K7 k7 => ?_
  refine ls 1 H <| sd ((does_loadBox agg_30 sz_30 rfl S (i := 0) rfl rfl)) <| sE ?_;clear H a;intro a H
  refine list_call H rfl rfl Try.func19 rfl rfl (rt_CheckYear y _ (hy.now S) hyb) ?_;clear H a
  rintro _ _ a ⟨rfl, S2⟩ H
  replace S := S.call S2;clear S2
  refine ls 8 H <| sd ((does_eql rfl rfl).to (congrArg Value.bool (decide_eq_true hB.1))) <| sr 1 rfl <| sy rfl <| sf fo_30_1 rfl <| sy rfl <| sd ((does_loadBox agg_25 sz_25 rfl S (i := 0) rfl rfl)) <| sy rfl <| sf fo_30_2 rfl <| sy rfl <| sl S 0 one_23 rfl rfl rfl <| sy rfl <| sf fo_30_3 rfl <| sy rfl <| sl S 0 one_3 rfl rfl rfl <| sE ?_;clear H a;intro a H
  refine list_yes H rfl rfl ?_
  refine list_call H rfl rfl Try.func32 rfl rfl (law_CrowdV y.pl y.ps y.PA y.pc y.xs y.XA y.xc y.pe y.BA y.bc y.limit _ (hy.ps.now S) hyb.psn (hy.xs.now S) hyb.xsn (hy.pe.now S) hyb.pen) ?_;clear H a
  rintro _ _ a ⟨rfl, S2⟩ H
  replace S := S.call S2;clear S2
  rw [hB.2.1] at H
  refine ls 13 H <| sy rfl <| sr 1 rfl <| sy rfl <| sf fo_30_0 rfl <| sy rfl <| sl S 0 one_3 rfl rfl rfl <| sy rfl <| sd (does_gt_t rfl rfl (by omega)) <| sy rfl <| so rfl rfl rfl <| sy rfl <| sr 1 rfl <| sn rfl rfl rfl <| sn rfl rfl rfl <| sn rfl rfl rfl <| sn rfl rfl rfl <| sy rfl <| sd ((does_pick rfl rfl rfl)) <| sa rfl rfl rfl <| sr 1 rfl <| sE ?_;clear H a;intro a H
  refine k7 _ _ ?_;clear k7 K7
  refine wp_ret ?_
  refine ret1 (fn := Try.f9) rfl H rfl ?_
  first | exact ⟨_, rfl, (fun _ => ⟨⟨by omega, by omega⟩, fun h => absurd h hB⟩), (S.sel [] rfl rfl)⟩ | exact ⟨_, rfl, (fun h => by cases h), (S.sel [] rfl rfl)⟩ | exact ⟨_, rfl, (fun h => ⟨⟨by omega, by omega⟩, fun h9 => ⟨by omega, by have := of_decide_eq_false h; omega, hB.2.1⟩⟩), (S.sel [] rfl rfl)⟩
 skip
 replace H := H.keep [1] rfl
 refine seq_list fun K8 k8 => ?_
 refine ls 1 H <| sd ((does_loadBox agg_30 sz_30 rfl S (i := 0) rfl rfl)) <| sE ?_;clear H a;intro a H
 refine list_call H rfl rfl Try.func19 rfl rfl (rt_CheckYear y _ (hy.now S) hyb) ?_;clear H a
 rintro _ _ a ⟨rfl, S2⟩ H
 replace S := S.call S2;clear S2
 refine ls 8 H <| sd ((does_eql rfl rfl).to (congrArg Value.bool (decide_eq_true hB.1))) <| sr 1 rfl <| sy rfl <| sf fo_30_1 rfl <| sy rfl <| sd ((does_loadBox agg_25 sz_25 rfl S (i := 0) rfl rfl)) <| sy rfl <| sf fo_30_2 rfl <| sy rfl <| sl S 0 one_23 rfl rfl rfl <| sy rfl <| sf fo_30_3 rfl <| sy rfl <| sl S 0 one_3 rfl rfl rfl <| sE ?_;clear H a;intro a H
 refine list_yes H rfl rfl ?_
 refine list_call H rfl rfl Try.func32 rfl rfl (law_CrowdV y.pl y.ps y.PA y.pc y.xs y.XA y.xc y.pe y.BA y.bc y.limit _ (hy.ps.now S) hyb.psn (hy.xs.now S) hyb.xsn (hy.pe.now S) hyb.pen) ?_;clear H a
 rintro _ _ a ⟨rfl, S2⟩ H
 replace S := S.call S2;clear S2
 rw [hB.2.1] at H
 refine ls 13 H <| sy rfl <| sr 1 rfl <| sy rfl <| sf fo_30_0 rfl <| sy rfl <| sl S 0 one_3 rfl rfl rfl <| sy rfl <| sd (does_gt_f rfl rfl (by omega)) <| sy rfl <| so rfl rfl rfl <| sy rfl <| sr 1 rfl <| sy rfl <| sf fo_30_6 rfl <| sy rfl <| sl S 0 one_27 rfl rfl rfl <| sy rfl <| sL sl_27 rfl <| sy rfl <| sr 1 rfl <| sy rfl <| so rfl rfl rfl <| sa rfl rfl rfl <| sr 1 rfl <| sE ?_;clear H a;intro a H
 refine k8 _ _ ?_;clear k8 K8
 refine wp_ret ?_
 refine ret1 (fn := Try.f9) rfl H rfl ?_
 first | exact ⟨_, rfl, (fun _ => ⟨⟨by omega, by omega⟩, fun h => absurd h hB⟩), (S.sel [] rfl rfl)⟩ | exact ⟨_, rfl, (fun h => by cases h), (S.sel [] rfl rfl)⟩ | exact ⟨_, rfl, (fun h => ⟨⟨by omega, by omega⟩, fun h9 => ⟨by omega, by have := of_decide_eq_false h; omega, hB.2.1⟩⟩), (S.sel [] rfl rfl)⟩

end Go.Proofs.Ytopmadlgolnmfaa
