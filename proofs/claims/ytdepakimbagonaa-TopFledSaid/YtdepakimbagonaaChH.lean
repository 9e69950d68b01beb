/- ChH. Printed by gen.py. -/
import Derived.Test.YtdepakimbagonaaChF
import Derived.Test.YtdepakimbagonaaF1
import Derived.Test.YtdepakimbagonaaE2
namespace Go.Proofs.Ytdepakimbagonaa
open Go.RowKit
set_option linter.unusedVariables false
set_option linter.unusedSimpArgs false
set_option maxRecDepth 100000
set_option maxHeartbeats 4000000


theorem ref_from (n lo hi : Int) (w : World) :
    Calls Try.prog 22 [.int .i64 n, .int .i64 lo, .int .i64 hi].toArray w (Ret (fun v w' => v = .bool (decide (lo ≤ n) && decide (n ≤ hi)) ∧ w' = w)) := by
 refine enter Try.func22 rfl Try.ntmps22 rfl (fun a H => ?_)
 have S := St.start w
 refine sS H fun K1 k1=>sr 1 rfl <| sE ?_;clear H a;intro a H
 refine k1 _ ?_;clear k1 K1
 replace H := H.keep [0, 1, 2] rfl
 refine sS H fun K2 k2=>sr 4 rfl <| sg 3 3 10 13 true rfl rfl (fun hg4 => sy hg4 <| sr 1 rfl <| sy hg4 <| sr 1 rfl <| sy hg4 <| sr 1 rfl <| sz 3 rfl rfl rfl) <| sa rfl rfl rfl <| sr 1 rfl <| sE ?_;clear H a;intro a H
 refine k2 _ ?_;clear k2 K2
 refine wp_ret ?_
 refine ret1 (fn := Try.f22) rfl H rfl ?_
 exact ⟨rfl, rfl⟩

theorem ref_CheckChain (links pitch limit : Int) (w : World) :
    Calls Try.prog 21 [.agg [.int .i64 links, .int .i64 pitch, .int .i64 limit].toArray].toArray w (Ret (fun v w' => v = .int .i64 (if chainOk (⟨links, pitch, limit⟩ : Chain) then 0 else 20) ∧ St w noF [] w')) := by
 refine enter Try.func21 rfl Try.ntmps21 rfl (fun a H => ?_)
 have S := St.start w
 refine seq_list fun K1 k1 => ?_
 refine list_box H rfl S rfl rfl ?_;clear H a S;intro b1 _ a hb1 hbw1 S H
 refine ls 1 H <| sr 1 rfl <| sE ?_;clear H a;intro a H
 refine k1 _ _ ?_;clear k1 K1
 refine wp_seq_k fun K2 k2 => ?_
 replace H := H.keep [1] rfl
 refine sS H fun K3 k3=>sf fo_23_0 rfl <| sl S 0 one_3 rfl rfl rfl <| sc rfl Try.func22 rfl rfl (ref_from _ _ _ _) <| sr 2 rfl <| sg 6 4 7 13 false rfl rfl (fun hg5 => sy hg5 <| sf fo_23_1 rfl <| sy hg5 <| sl S 0 one_3 rfl rfl rfl <| sy hg5 <| sf fo_23_2 rfl <| sy hg5 <| sl S 0 one_3 rfl rfl rfl <| sy hg5 <| sc rfl Try.func22 rfl rfl (ref_from _ _ _ _) <| sy hg5 <| sr 1 rfl <| sz 6 rfl rfl rfl) <| so rfl rfl rfl <| sr 1 rfl <| sg 3 12 15 18 false rfl rfl (fun hg13 => sy hg13 <| sf fo_23_2 rfl <| sy hg13 <| sl S 0 one_3 rfl rfl rfl <| sy hg13 <| sr 1 rfl <| sz 3 rfl rfl rfl) <| so rfl rfl rfl <| sE ?_;clear H a;intro a H
 refine k3 _ ?_;clear k3 K3
 refine cond_ H rfl (fun hc1 => ?_) (fun hc1 => ?_)
 ·skip
  try simp only [o1,o2,o3,o4,o5,o6,o7,o8,o9,oa] at hc1
  replace H := H.keep [] rfl
  refine sS H fun K4 k4=>sr 1 rfl <| sE ?_;clear H a;intro a H
  refine k4 _ ?_;clear k4 K4
  refine wp_ret ?_
  refine ret1 (fn := Try.f21) rfl H rfl ?_
  refine ⟨?_, (S.sel [] rfl rfl)⟩; rw [if_neg (by unfold chainOk; simp only [decide_eq_true_eq]; omega)]
 try simp only [o1,o2,o3,o4,o5,o6,o7,o8,o9,oa] at hc1
 refine wp_skip ?_
 refine k2 _ _ ?_
 refine sS H fun K5 k5=>sr 1 rfl <| sE ?_;clear H a;intro a H
 refine k5 _ ?_;clear k5 K5
 refine wp_ret ?_
 refine ret1 (fn := Try.f21) rfl H rfl ?_
 refine ⟨?_, (S.sel [] rfl rfl)⟩; rw [if_pos (by unfold chainOk; simp only [decide_eq_true_eq]; omega)]

theorem ref_Check (links pitch limit : Int) (l : List Gauge) (A : Option Addr) (cp : Nat) (w : World) (hl : InS w noF 4 A l.length (gcell l)) (hn : l.length ≤ 9223372036854775807) :
    Calls Try.prog 6 [.agg [.int .i64 links, .int .i64 pitch, .int .i64 limit].toArray, .slice A l.length cp].toArray w (Ret (fun v w' => v = .int .i64 (checkE (⟨links, pitch, limit⟩ : Chain) l) ∧ St w noF [] w')) := by
 refine enter Try.func6 rfl Try.ntmps6 rfl (fun a H => ?_)
 have S := St.start w
 refine seq_list fun K1 k1 => ?_
 refine list_box H rfl S rfl rfl ?_;clear H a S;intro b2 _ a hb2 hbw2 S H
 refine ls 1 H <| sr 1 rfl <| sE ?_;clear H a;intro a H
 refine k1 _ _ ?_;clear k1 K1
 cases hck : chainOk (⟨links, pitch, limit⟩ : Chain)
 ·skip
  refine seq_list fun K2 k2 => ?_
  refine ls 1 H <| sd ((does_loadBox agg_23 sz_23 rfl S (i := 0) rfl rfl)) <| sE ?_;clear H a;intro a H
  refine list_call H rfl rfl Try.func21 rfl rfl (ref_CheckChain links pitch limit _) ?_;clear H a
  rintro _ _ a ⟨rfl, S2⟩ H
  replace S := S.call S2;clear S2
  rw [hck] at H
  refine ls 1 H <| sr 1 rfl <| sE ?_;clear H a;intro a H
  refine k2 _ _ ?_;clear k2 K2
  refine wp_seq_k fun K3 k3 => ?_
  try have hck2 := hck
  try unfold chainOk at hck2
  try simp only [decide_eq_true_eq] at hck2
  refine sS H fun K4 k4=>sr 2 rfl <| sE ?_;clear H a;intro a H
  refine k4 _ ?_;clear k4 K4
  refine condN H rfl (fun hc1 => ?_) (fun hc1 => ?_)
  ·skip
   refine sS H fun K5 k5=>sr 2 rfl <| sE ?_;clear H a;intro a H
   refine k5 _ ?_;clear k5 K5
   refine wp_ret ?_
   refine ret1 (fn := Try.f6) rfl H rfl ?_
   refine ⟨?_, (S.sel [] rfl rfl)⟩; unfold checkE; rw [hck]; rfl
  all_goals first | (exfalso; omega) | (simp at hc1)
 replace H := H.keep [1, 2] rfl
 refine seq_list fun K6 k6 => ?_
 refine ls 1 H <| sd ((does_loadBox agg_23 sz_23 rfl S (i := 0) rfl rfl)) <| sE ?_;clear H a;intro a H
 refine list_call H rfl rfl Try.func21 rfl rfl (ref_CheckChain links pitch limit _) ?_;clear H a
 rintro _ _ a ⟨rfl, S2⟩ H
 replace S := S.call S2;clear S2
 rw [hck] at H
 refine ls 1 H <| sr 1 rfl <| sE ?_;clear H a;intro a H
 refine k6 _ _ ?_;clear k6 K6
 refine wp_seq_k fun K7 k7 => ?_
 try have hck2 := hck
 try unfold chainOk at hck2
 try simp only [decide_eq_true_eq] at hck2
 refine sS H fun K8 k8=>sr 2 rfl <| sE ?_;clear H a;intro a H
 refine k8 _ ?_;clear k8 K8
 refine condN H rfl (fun hc2 => ?_) (fun hc2 => ?_)
 ·skip
  all_goals first | (exfalso; omega) | (simp at hc2)
 refine wp_skip ?_
 refine k7 _ _ ?_
 refine wp_seq_k fun K9 k9 => ?_
 refine sS H fun K10 k10=>sr 1 rfl <| sL sl_24 rfl <| sr 1 rfl <| sE ?_;clear H a;intro a H
 refine k10 _ ?_;clear k10 K10
 refine condL H rfl (fun hc3 => ?_) (fun hc3 => ?_)
 ·skip
  refine sS H fun K11 k11=>sr 1 rfl <| sE ?_;clear H a;intro a H
  refine k11 _ ?_;clear k11 K11
  refine wp_ret ?_
  refine ret1 (fn := Try.f6) rfl H rfl ?_
  refine ⟨?_, (S.sel [] rfl rfl)⟩; unfold checkE; rw [if_pos hck, if_neg (by omega)]
 refine wp_skip ?_
 refine k9 _ _ ?_
 refine wp_seq_k fun K12 k12 => ?_
 replace H := H.keep [1, 2] rfl
 refine sS H fun K13 k13=>sr 1 rfl <| sE ?_;clear H a;intro a H
 refine k13 _ ?_;clear k13 K13
 refine wp_block ?_
 refine loop_st (X := Nat) (R0 := _) [1, 2] H rfl (fun k => [(6, .int .i64 (k : Int))]) (fun k => []) (fun g k => k ≤ l.length ∧ g + k = l.length ∧ (l.take k).all (gaugeOk links) = true) (l.length) 0 ?_ (S.sel [0] rfl rfl) (H.keep [6, 1, 2] rfl) ?_
 · exact ⟨by omega, by omega, by simp⟩
 clear H S a
 intro g1 x1 a w1 hp S H K14 k14
 obtain ⟨k, rfl⟩ : ∃ y, y = x1 := ⟨_, rfl⟩
 refine wp_seq_k fun K15 k15 => ?_
 refine sS H fun K16 k16=>sr 2 rfl <| sL sl_24 rfl <| sr 1 rfl <| sE ?_;clear H a;intro a H
 refine k16 _ ?_;clear k16 K16
 refine condL H rfl (fun hc4 => ?_) (fun hc4 => ?_)
 ·skip
  refine wp_skip ?_
  refine k15 _ _ ?_
  refine wp_seq_k fun K17 k17 => ?_
  refine wp_block ?_
  replace H := H.keep [1, 2, 6] rfl
  refine seq_list fun K18 k18 => ?_
  refine ls 4 H <| sr 2 rfl <| si sl_24 sz_41 rfl rfl (hl.adr (by omega)) (by omega) <| sd ((does_loadIn agg_41 sz_41 rfl S hl (by omega) (by omega))) <| sE ?_;clear H a;intro a H
  refine list_alloc H rfl S ze_41 ?_;clear H a S;intro b7 _ a hb7 hbw7 S H
  refine list_store H S (i := 0) rfl rfl rfl rfl sz_41 rfl rfl ?_
  clear H a S;intro _ a S H
  refine k18 _ _ ?_;clear k18 K18
  replace H := H.keep [1, 2, 6, 7] rfl
  refine sS H fun K19 k19=>sf fo_41_0 rfl <| sl S 0 one_3 rfl rfl rfl <| sr 2 rfl <| sg 5 3 29 34 false rfl rfl (fun hg4 => sy hg4 <| sf fo_41_0 rfl <| sy hg4 <| sl S 0 one_3 rfl rfl rfl <| sy hg4 <| sf fo_41_1 rfl <| sy hg4 <| sl S 0 one_3 rfl rfl rfl <| sy hg4 <| sr 1 rfl <| sz 5 rfl rfl rfl) <| so rfl rfl rfl <| sr 1 rfl <| sg 5 10 36 41 false rfl rfl (fun hg11 => sy hg11 <| sf fo_41_1 rfl <| sy hg11 <| sl S 0 one_3 rfl rfl rfl <| sy hg11 <| sf fo_23_0 rfl <| sy hg11 <| sl S 1 one_3 rfl rfl rfl <| sy hg11 <| sr 1 rfl <| sz 5 rfl rfl rfl) <| so rfl rfl rfl <| sr 1 rfl <| sg 8 17 43 51 false rfl rfl (fun hg18 => sy hg18 <| sf fo_41_2 rfl <| sy hg18 <| sf fo_36_0 rfl <| sy hg18 <| sl S 0 one_3 rfl rfl rfl <| sy hg18 <| sf fo_41_2 rfl <| sy hg18 <| sf fo_36_1 rfl <| sy hg18 <| sl S 0 one_3 rfl rfl rfl <| sy hg18 <| sc rfl Try.func22 rfl rfl (ref_from _ _ _ _) <| sy hg18 <| sr 1 rfl <| sz 8 rfl rfl rfl) <| so rfl rfl rfl <| sr 1 rfl <| sg 4 27 53 57 false rfl rfl (fun hg28 => sy hg28 <| sf fo_41_2 rfl <| sy hg28 <| sf fo_36_1 rfl <| sy hg28 <| sl S 0 one_3 rfl rfl rfl <| sy hg28 <| sr 1 rfl <| sz 4 rfl rfl rfl) <| so rfl rfl rfl <| sE ?_;clear H a;intro a H
  refine k19 _ ?_;clear k19 K19
  refine cond_ H rfl (fun hc5 => ?_) (fun hc5 => ?_)
  ·skip
   try simp only [o1,o2,o3,o4,o5,o6,o7,o8,o9,oa] at hc5
   replace H := H.keep [] rfl
   refine sS H fun K20 k20=>sr 1 rfl <| sE ?_;clear H a;intro a H
   refine k20 _ ?_;clear k20 K20
   refine wp_ret ?_
   refine ret1 (fn := Try.f6) rfl H rfl ?_
   refine ⟨?_, (S.sel [] rfl rfl)⟩; unfold checkE; rw [if_pos hck, if_pos (by omega), all_false (k := k) (d := Gauge.zero) (by omega) (by unfold gaugeOk; simp only [decide_eq_false_iff_not]; omega)]; rfl
  try simp only [o1,o2,o3,o4,o5,o6,o7,o8,o9,oa] at hc5
  refine wp_skip ?_
  refine k17 _ _ ?_
  refine sO H <| sr 1 rfl <| sd (does_add rfl rfl (by unfold i64ok; omega)) <| sr 1 rfl <| sE ?_;clear H a;intro a H
  exact k14 (g1 - 1) (k + 1) a _ (by omega) (⟨by omega, by omega, all_take (d := Gauge.zero) (by omega) hp.2.2 (by unfold gaugeOk; simp only [decide_eq_true_eq]; omega)⟩) (S.sel [1] rfl rfl) (H.keep [6, 1, 2] rfl)
 refine wp_exit ?_
 refine k12 _ _ ?_
 refine sS H fun K22 k22=>sr 1 rfl <| sE ?_;clear H a;intro a H
 refine k22 _ ?_;clear k22 K22
 refine wp_ret ?_
 refine ret1 (fn := Try.f6) rfl H rfl ?_
 refine ⟨?_, (S.sel [] rfl rfl)⟩; unfold checkE; rw [if_pos hck, if_pos (by omega)]; rw [List.take_of_length_le (by omega)] at hp; rw [hp.2.2, if_pos rfl]

end Go.Proofs.Ytdepakimbagonaa
