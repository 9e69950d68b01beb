/- LwB. Printed by gen.py. -/
import Derived.Test.YtlmddkekeoebcaaRwD
import Derived.Test.YtlmddkekeoebcaaRwW
namespace Go.Proofs.Ytlmddkekeoebcaa
open Go.RowKit
set_option linter.unusedVariables false
set_option linter.unusedSimpArgs false
set_option maxRecDepth 100000
set_option maxHeartbeats 4000000


theorem law_WaysFinds (pl : Int) (ps : List Psg) (PA : Option Addr) (pc : Nat) (xs : List Int) (XA : Option Addr) (xc : Nat) (out : Int) (help : Bool) (fr to : Int) (w : World) (hps : InS w noF 7 PA ps.length (pcell ps)) (hpn8 : 56 * ps.length ≤ 140737488355328) (hxs : InS w noF 1 XA xs.length (icl xs)) (hxn8 : 8 * xs.length ≤ 140737488355328) :
    Calls Try.prog 4 [.agg [.int .i64 pl, .slice PA ps.length pc, .slice XA xs.length xc].toArray, .agg [.int .i64 out, .bool help, .int .i64 fr, .int .i64 to].toArray].toArray w (Ret (fun u w' => u = .bool true ∧ St w noF [] w')) := by
 have hpn : ps.length ≤ 9223372036854775807 := by omega
 have hxn : xs.length ≤ 9223372036854775807 := by omega
 refine enter Try.func4 rfl Try.ntmps4 rfl (fun a H => ?_)
 have S := St.start w
 refine seq_list fun K1 k1 => ?_
 refine list_box H rfl S rfl rfl ?_;clear H a S;intro b2 _ a hb2 hbw2 S H
 refine list_box H rfl S rfl rfl ?_;clear H a S;intro b3 _ a hb3 hbw3 S H
 refine ls 1 H <| sr 1 rfl <| sE ?_;clear H a;intro a H
 refine k1 _ _ ?_;clear k1 K1
 refine wp_seq_k fun K2 k2 => ?_
 refine sS H fun K3 k3=>sf fo_25_1 rfl <| sl S 1 one_22 rfl rfl rfl <| sL sl_22 rfl <| sr 1 rfl <| sE ?_;clear H a;intro a H
 refine k3 _ ?_;clear k3 K3
 refine condL H rfl (fun hc1 => ?_) (fun hc1 => ?_)
 ·skip
  refine seq_list fun K4 k4 => ?_
  refine list_call H rfl rfl Try.func15 rfl rfl (law_works _) ?_;clear H a
  rintro _ _ a ⟨rfl, S2⟩ H
  replace S := S.call S2;clear S2
  refine ls 1 H <| sr 1 rfl <| sE ?_;clear H a;intro a H
  refine k4 _ _ ?_;clear k4 K4
  refine wp_ret ?_
  refine ret1 (fn := Try.f4) rfl H rfl ?_
  exact ⟨rfl, (S.sel [] rfl rfl)⟩
 refine wp_skip ?_
 refine k2 _ _ ?_
 replace H := H.keep [2, 3] rfl
 refine seq_list fun K5 k5 => ?_
 refine ls 1 H <| sd ((does_loadBox agg_25 sz_25 rfl S (i := 1) rfl rfl)) <| sE ?_;clear H a;intro a H
 refine list_call H rfl rfl Try.func17 rfl rfl (ref_Copy pl ps PA pc xs XA xc _ (hps.now S) hpn (hxs.now S) hxn hpn8 hxn8) ?_;clear H a
 rintro _ _ a ⟨A5, c5, B5, d5, rfl, S2⟩ H
 replace S := S.call S2;clear S2
 refine list_alloc H rfl S ze_25 ?_;clear H a S;intro b5 _ a hb5 hbw5 S H
 refine list_store H S (i := 0) rfl rfl rfl rfl sz_25 rfl rfl ?_
 clear H a S;intro _ a S H
 refine k5 _ _ ?_;clear k5 K5
 refine wp_seq_k fun K6 k6 => ?_
 replace S := S.drew
 refine seq_wq [(0, true), (2, true), (1, false), (3, false), (4, true)] (by kernel_rfl) (by kernel_rfl) (S.sel [0, 1, 2, 3, 4] rfl rfl) fun K7 k7 => ?_
 refine qF H <| qd rfl (fun _ S => (does_loadBox agg_25 sz_25 rfl S (i := 0) rfl rfl)) <| qd rfl (fun _ S => (does_loadBox agg_25 sz_25 rfl S (i := 4) rfl rfl)) <| qK ?_;clear H a;intro a H
 refine wq_eff rfl ?_
 refine list_call H rfl rfl Try.func19 rfl rfl (ways_Check pl ps A5 c5 xs B5 d5 _ (ownM.inS S (i := 1) rfl) hpn (ownM.inS S (i := 2) rfl) hxn) ?_;clear H a
 rintro _ _ a ⟨rfl, S2⟩ H
 replace S := S.call S2;clear S2
 refine wpList_nil (And.intro (S.sel [0, 1, 2, 3, 4] rfl rfl) ?_)
 refine wq_eff rfl ?_
 refine list_call H rfl rfl Try.func20 rfl rfl (ref_Check pl ps PA pc xs XA xc _ (hps.now S) hpn (hxs.now S) hxn) ?_;clear H a
 rintro _ _ a ⟨rfl, S2⟩ H
 replace S := S.call S2;clear S2
 refine wpList_nil (And.intro (S.sel [0, 1, 2, 3, 4] rfl rfl) ?_)
 refine qF H <| qd rfl (fun _ S => does_ne_f rfl rfl rfl) <| qK ?_;clear H a;intro a H
 refine wq_nil ?_
 refine k7 _ _ ?_
 clear k7 K7
 refine cond_ H rfl (fun hc2 => ?_) (fun hc2 => ?_)
 ·skip
  skip
  cases hc2
 skip
 refine wp_skip ?_
 refine k6 _ _ ?_
 replace H := H.keep [2, 3, 5] rfl
 refine seq_list fun K8 k8 => ?_
 refine ls 9 H <| sd ((does_loadBox agg_25 sz_25 rfl S (i := 0) rfl rfl)) <| sf fo_27_0 rfl <| sl S 3 one_3 rfl rfl rfl <| sf fo_27_1 rfl <| sl S 3 one_4 rfl rfl rfl <| sf fo_27_2 rfl <| sl S 3 one_3 rfl rfl rfl <| sf fo_27_3 rfl <| sl S 3 one_3 rfl rfl rfl <| sE ?_;clear H a;intro a H
 refine list_call H rfl rfl Try.func21 rfl rfl (ret_imp (ways_Way pl ps A5 c5 xs B5 d5 out help fr to _ (ownM.inS S (i := 1) rfl) hpn (ownM.inS S (i := 2) rfl) hxn) (fun u w' h => way_form h)) ?_;clear H a
 rintro _ _ a ⟨A6, c6, rfl, _, S2⟩ H
 replace S := S.call S2;clear S2
 refine ls 7 H <| sr 7 rfl <| sE ?_;clear H a;intro a H
 refine k8 _ _ ?_;clear k8 K8
 replace H := H.keep [2, 3, 5, 6, 7, 8] rfl
 refine seq_list fun K9 k9 => ?_
 refine ls 9 H <| sd ((does_loadBox agg_25 sz_25 rfl S (i := 5) rfl rfl)) <| sf fo_27_0 rfl <| sl S 4 one_3 rfl rfl rfl <| sf fo_27_1 rfl <| sl S 4 one_4 rfl rfl rfl <| sf fo_27_2 rfl <| sl S 4 one_3 rfl rfl rfl <| sf fo_27_3 rfl <| sl S 4 one_3 rfl rfl rfl <| sE ?_;clear H a;intro a H
 refine list_call H rfl rfl Try.func22 rfl rfl (ret_imp (ref_Way pl ps PA pc xs XA xc out help fr to _ (hps.now S) hpn (hxs.now S) hxn) (fun u w' h => way_form h)) ?_;clear H a
 rintro _ _ a ⟨A7, c7, rfl, _, S2⟩ H
 replace S := S.call S2;clear S2
 refine ls 7 H <| sr 7 rfl <| sE ?_;clear H a;intro a H
 refine k9 _ _ ?_;clear k9 K9
 refine wp_seq_k fun K10 k10 => ?_
 replace H := H.keep [2, 3, 5, 6, 7, 8, 9, 10, 11] rfl
 refine seq_list fun K11 k11 => ?_
 refine ls 6 H <| sr 2 rfl <| sd (does_ne_f rfl rfl rfl) <| sr 1 rfl <| sy rfl <| sr 1 rfl <| sy rfl <| sr 1 rfl <| sE ?_;clear H a;intro a H
 refine list_yes H rfl rfl ?_
 refine list_call H rfl rfl Try.func23 rfl rfl (law_same (wayV pl ps xs out help fr to).2.1 (wayV pl ps xs out help fr to).2.1 A6 A7 c6 c7 _ (ownM.inS S (i := 1) rfl) (ownM.inS S (i := 0) rfl) (ownM.len63 S (i := 1) rfl) (ownM.len63 S (i := 0) rfl)) ?_;clear H a
 rintro _ _ a ⟨rfl, S2⟩ H
 replace S := S.call S2;clear S2
 rw [show sameI (wayV pl ps xs out help fr to).2.1 (wayV pl ps xs out help fr to).2.1 = true from decide_eq_true rfl] at H
 refine ls 7 H <| sy rfl <| sr 1 rfl <| so rfl rfl rfl <| sr 1 rfl <| sy rfl <| sr 1 rfl <| sy rfl <| sr 1 rfl <| sy rfl <| sd (does_ne_f rfl rfl rfl) <| so rfl rfl rfl <| sE ?_;clear H a;intro a H
 refine k11 _ _ ?_;clear k11 K11
 refine cond_ H rfl (fun hc3 => ?_) (fun hc3 => ?_)
 ·skip
  skip
  cases hc3
 skip
 refine wp_skip ?_
 refine k10 _ _ ?_
 replace H := H.keep [2, 3, 5] rfl
 refine seq_list fun K12 k12 => ?_
 refine ls 9 H <| sd ((does_loadBox agg_25 sz_25 rfl S (i := 2) rfl rfl)) <| sf fo_27_0 rfl <| sl S 5 one_3 rfl rfl rfl <| sf fo_27_1 rfl <| sl S 5 one_4 rfl rfl rfl <| sf fo_27_2 rfl <| sl S 5 one_3 rfl rfl rfl <| sf fo_27_3 rfl <| sl S 5 one_3 rfl rfl rfl <| sE ?_;clear H a;intro a H
 refine list_call H rfl rfl Try.func24 rfl rfl (ret_imp (ways_Needed pl ps A5 c5 xs B5 d5 out help fr to _ (ownM.inS S (i := 3) rfl) hpn (ownM.inS S (i := 4) rfl) hxn) (fun u w' h => need_form h)) ?_;clear H a
 rintro _ _ a ⟨A8, c8, rfl, S2⟩ H
 replace S := S.call S2;clear S2
 refine ls 5 H <| sr 5 rfl <| sE ?_;clear H a;intro a H
 refine k12 _ _ ?_;clear k12 K12
 replace H := H.keep [2, 3, 7, 8] rfl
 refine seq_list fun K13 k13 => ?_
 refine ls 9 H <| sd ((does_loadBox agg_25 sz_25 rfl S (i := 7) rfl rfl)) <| sf fo_27_0 rfl <| sl S 6 one_3 rfl rfl rfl <| sf fo_27_1 rfl <| sl S 6 one_4 rfl rfl rfl <| sf fo_27_2 rfl <| sl S 6 one_3 rfl rfl rfl <| sf fo_27_3 rfl <| sl S 6 one_3 rfl rfl rfl <| sE ?_;clear H a;intro a H
 refine list_call H rfl rfl Try.func25 rfl rfl (ref_Needed pl ps PA pc xs XA xc out help fr to _ (hps.now S) hpn (hxs.now S) hxn) ?_;clear H a
 rintro _ _ a ⟨A9, c9, rfl, S2⟩ H
 replace S := S.call S2;clear S2
 refine ls 5 H <| sr 5 rfl <| sE ?_;clear H a;intro a H
 refine k13 _ _ ?_;clear k13 K13
 replace H := H.keep [7, 8, 10, 11] rfl
 refine seq_list fun K14 k14 => ?_
 refine ls 2 H <| sr 2 rfl <| sE ?_;clear H a;intro a H
 refine list_call H rfl rfl Try.func23 rfl rfl (law_same (needV pl ps xs out help fr to).1 (needV pl ps xs out help fr to).1 A8 A9 c8 c9 _ (ownM.inS S (i := 1) rfl) (ownM.inS S (i := 0) rfl) (ownM.len63 S (i := 1) rfl) (ownM.len63 S (i := 0) rfl)) ?_;clear H a
 rintro _ _ a ⟨rfl, S2⟩ H
 replace S := S.call S2;clear S2
 rw [show sameI (needV pl ps xs out help fr to).1 (needV pl ps xs out help fr to).1 = true from decide_eq_true rfl] at H
 refine ls 6 H <| sr 1 rfl <| sy rfl <| sr 1 rfl <| sy rfl <| sr 1 rfl <| sy rfl <| sd (does_eq_t rfl rfl rfl) <| sa rfl rfl rfl <| sr 1 rfl <| sE ?_;clear H a;intro a H
 refine list_yes H rfl rfl ?_
 refine list_call H rfl rfl Try.func15 rfl rfl (law_works _) ?_;clear H a
 rintro _ _ a ⟨rfl, S2⟩ H
 replace S := S.call S2;clear S2
 refine ls 2 H <| sa rfl rfl rfl <| sr 1 rfl <| sE ?_;clear H a;intro a H
 refine k14 _ _ ?_;clear k14 K14
 refine wp_ret ?_
 refine ret1 (fn := Try.f4) rfl H rfl ?_
 exact ⟨rfl, (S.sel [] rfl rfl)⟩

end Go.Proofs.Ytlmddkekeoebcaa
