/- ChA. Printed by gen.py. -/
import Derived.Test.YtdepakimbagonaaFacts
import Derived.Test.YtdepakimbagonaaF1
namespace Go.Proofs.Ytdepakimbagonaa
open Go.RowKit
set_option linter.unusedVariables false
set_option linter.unusedSimpArgs false
set_option maxRecDepth 100000
set_option maxHeartbeats 4000000


theorem chain_within (n lo hi : Int) (w : World) :
    Calls Try.prog 73 [.int .i64 n, .int .i64 lo, .int .i64 hi].toArray w (Ret (fun v w' => v = .bool (decide (lo ≤ n) && decide (n ≤ hi)) ∧ w' = w)) := by
 refine enter Try.func73 rfl Try.ntmps73 rfl (fun a H => ?_)
 have S := St.start w
 refine sS H fun K1 k1=>sr 1 rfl <| sE ?_;clear H a;intro a H
 refine k1 _ ?_;clear k1 K1
 replace H := H.keep [0, 1, 2] rfl
 refine sS H fun K2 k2=>sr 4 rfl <| sg 3 3 10 13 true rfl rfl (fun hg4 => sy hg4 <| sr 1 rfl <| sy hg4 <| sr 1 rfl <| sy hg4 <| sr 1 rfl <| sz 3 rfl rfl rfl) <| sa rfl rfl rfl <| sr 1 rfl <| sE ?_;clear H a;intro a H
 refine k2 _ ?_;clear k2 K2
 refine wp_ret ?_
 refine ret1 (fn := Try.f73) rfl H rfl ?_
 exact ⟨rfl, rfl⟩

theorem chain_Check (c : Chain) (l : List Gauge) (A : Option Addr) (cp : Nat) (w : World) (hl : InS w noF 4 A l.length (gcell l)) (hn : l.length ≤ 9223372036854775807) :
    Calls Try.prog 52 [c.val, .slice A l.length cp].toArray w (Ret (fun v w' => v = .int .i64 (checkE c l) ∧ St w noF [] w')) := by
 refine enter Try.func52 rfl Try.ntmps52 rfl (fun a H => ?_)
 have S := St.start w
 refine seq_list fun K1 k1 => ?_
 refine list_box H rfl S rfl rfl ?_;clear H a S;intro b2 _ a hb2 hbw2 S H
 refine ls 1 H <| sr 1 rfl <| sE ?_;clear H a;intro a H
 refine k1 _ _ ?_;clear k1 K1
 refine wp_seq_k fun K2 k2 => ?_
 replace H := H.keep [1, 2] rfl
 refine sS H fun K3 k3=>sf fo_23_0 rfl <| sl S 0 one_3 rfl rfl rfl <| sc rfl Try.func73 rfl rfl (chain_within _ _ _ _) <| sr 2 rfl <| sg 3 4 11 14 false rfl rfl (fun hg5 => sy hg5 <| sf fo_23_1 rfl <| sy hg5 <| sl S 0 one_3 rfl rfl rfl <| sy hg5 <| sr 1 rfl <| sz 3 rfl rfl rfl) <| so rfl rfl rfl <| sr 1 rfl <| sg 5 9 16 21 false rfl rfl (fun hg10 => sy hg10 <| sf fo_23_2 rfl <| sy hg10 <| sl S 0 one_3 rfl rfl rfl <| sy hg10 <| sf fo_23_1 rfl <| sy hg10 <| sl S 0 one_3 rfl rfl rfl <| sy hg10 <| sr 1 rfl <| sz 5 rfl rfl rfl) <| so rfl rfl rfl <| sr 1 rfl <| sg 3 16 23 26 false rfl rfl (fun hg17 => sy hg17 <| sf fo_23_2 rfl <| sy hg17 <| sl S 0 one_3 rfl rfl rfl <| sy hg17 <| sr 1 rfl <| sz 3 rfl rfl rfl) <| so rfl rfl rfl <| sE ?_;clear H a;intro a H
 refine k3 _ ?_;clear k3 K3
 refine cond_ H rfl (fun hc1 => ?_) (fun hc1 => ?_)
 ·skip
  try simp only [o1,o2,o3,o4,o5,o6,o7,o8,o9,oa] at hc1
  replace H := H.keep [] rfl
  refine sS H fun K4 k4=>sr 1 rfl <| sE ?_;clear H a;intro a H
  refine k4 _ ?_;clear k4 K4
  refine wp_ret ?_
  refine ret1 (fn := Try.f52) rfl H rfl ?_
  refine ⟨?_, (S.sel [] rfl rfl)⟩; unfold checkE; rw [if_neg (by unfold chainOk; simp only [decide_eq_true_eq]; omega)]
 try simp only [o1,o2,o3,o4,o5,o6,o7,o8,o9,oa] at hc1
 refine wp_skip ?_
 refine k2 _ _ ?_
 refine wp_seq_k fun K5 k5 => ?_
 refine sS H fun K6 k6=>sr 1 rfl <| sL sl_24 rfl <| sr 1 rfl <| sE ?_;clear H a;intro a H
 refine k6 _ ?_;clear k6 K6
 refine condL H rfl (fun hc2 => ?_) (fun hc2 => ?_)
 ·skip
  refine sS H fun K7 k7=>sr 1 rfl <| sE ?_;clear H a;intro a H
  refine k7 _ ?_;clear k7 K7
  refine wp_ret ?_
  refine ret1 (fn := Try.f52) rfl H rfl ?_
  refine ⟨?_, (S.sel [] rfl rfl)⟩; unfold checkE; rw [if_pos (by unfold chainOk; simp only [decide_eq_true_eq]; omega), if_neg (by omega)]
 refine wp_skip ?_
 refine k5 _ _ ?_
 refine wp_seq_k fun K8 k8 => ?_
 refine sS H fun K9 k9=>sr 1 rfl <| sL sl_24 rfl <| sr 1 rfl <| sE ?_;clear H a;intro a H
 refine k9 _ ?_;clear k9 K9
 refine wp_block ?_
 refine loop_st (X := Nat) (R0 := _) [2, 31, 32] H rfl (fun k => [(33, .int .i64 (k : Int))]) (fun k => []) (fun g k => k ≤ l.length ∧ g + k = l.length ∧ (l.take k).all (gaugeOk c.links) = true) (l.length) 0 ?_ (S.sel [0] rfl rfl) (H.keep [33, 2, 31, 32] rfl) ?_
 · exact ⟨by omega, by omega, by simp⟩
 clear H S a
 intro g1 x1 a w1 hp S H K10 k10
 obtain ⟨k, rfl⟩ : ∃ y, y = x1 := ⟨_, rfl⟩
 refine sS H fun K11 k11=>sr 1 rfl <| sE ?_;clear H a;intro a H
 refine k11 _ ?_;clear k11 K11
 refine wp_seq_k fun K12 k12 => ?_
 refine condL H rfl (fun hc3 => ?_) (fun hc3 => ?_)
 ·skip
  refine wp_skip ?_
  refine k12 _ _ ?_
  refine wp_seq_k fun K13 k13 => ?_
  refine wp_block ?_
  refine seq_list fun K14 k14 => ?_
  refine ls 2 H <| si sl_24 sz_41 rfl rfl (hl.adr (by omega)) (by omega) <| sd ((does_loadIn agg_41 sz_41 rfl S hl (by omega) (by omega))) <| sE ?_;clear H a;intro a H
  refine list_alloc H rfl S ze_41 ?_;clear H a S;intro b6 _ a hb6 hbw6 S H
  refine list_store H S (i := 0) rfl rfl rfl rfl sz_41 rfl rfl ?_
  clear H a S;intro _ a S H
  refine k14 _ _ ?_;clear k14 K14
  replace H := H.keep [2, 6, 31, 32, 33] rfl
  refine sS H fun K15 k15=>sf fo_41_0 rfl <| sl S 0 one_3 rfl rfl rfl <| sr 2 rfl <| sg 5 3 40 45 false rfl rfl (fun hg4 => sy hg4 <| sf fo_41_1 rfl <| sy hg4 <| sl S 0 one_3 rfl rfl rfl <| sy hg4 <| sf fo_41_0 rfl <| sy hg4 <| sl S 0 one_3 rfl rfl rfl <| sy hg4 <| sr 1 rfl <| sz 5 rfl rfl rfl) <| so rfl rfl rfl <| sr 1 rfl <| sg 5 10 47 52 false rfl rfl (fun hg11 => sy hg11 <| sf fo_41_1 rfl <| sy hg11 <| sl S 0 one_3 rfl rfl rfl <| sy hg11 <| sf fo_23_0 rfl <| sy hg11 <| sl S 1 one_3 rfl rfl rfl <| sy hg11 <| sr 1 rfl <| sz 5 rfl rfl rfl) <| so rfl rfl rfl <| sr 1 rfl <| sg 4 17 54 58 false rfl rfl (fun hg18 => sy hg18 <| sf fo_41_2 rfl <| sy hg18 <| sf fo_36_0 rfl <| sy hg18 <| sl S 0 one_3 rfl rfl rfl <| sy hg18 <| sr 1 rfl <| sz 4 rfl rfl rfl) <| so rfl rfl rfl <| sr 1 rfl <| sg 7 23 60 67 false rfl rfl (fun hg24 => sy hg24 <| sf fo_41_2 rfl <| sy hg24 <| sf fo_36_1 rfl <| sy hg24 <| sl S 0 one_3 rfl rfl rfl <| sy hg24 <| sf fo_41_2 rfl <| sy hg24 <| sf fo_36_0 rfl <| sy hg24 <| sl S 0 one_3 rfl rfl rfl <| sy hg24 <| sr 1 rfl <| sz 7 rfl rfl rfl) <| so rfl rfl rfl <| sr 1 rfl <| sg 4 32 69 73 false rfl rfl (fun hg33 => sy hg33 <| sf fo_41_2 rfl <| sy hg33 <| sf fo_36_1 rfl <| sy hg33 <| sl S 0 one_3 rfl rfl rfl <| sy hg33 <| sr 1 rfl <| sz 4 rfl rfl rfl) <| so rfl rfl rfl <| sE ?_;clear H a;intro a H
  refine k15 _ ?_;clear k15 K15
  refine cond_ H rfl (fun hc4 => ?_) (fun hc4 => ?_)
  ·skip
   try simp only [o1,o2,o3,o4,o5,o6,o7,o8,o9,oa] at hc4
   replace H := H.keep [] rfl
   refine sS H fun K16 k16=>sr 1 rfl <| sE ?_;clear H a;intro a H
   refine k16 _ ?_;clear k16 K16
   refine wp_ret ?_
   refine ret1 (fn := Try.f52) rfl H rfl ?_
   refine ⟨?_, (S.sel [] rfl rfl)⟩; unfold checkE; rw [if_pos (by unfold chainOk; simp only [decide_eq_true_eq]; omega), if_pos (by omega), all_false (k := k) (d := Gauge.zero) (by omega) (by unfold gaugeOk; simp only [decide_eq_false_iff_not]; omega)]; rfl
  try simp only [o1,o2,o3,o4,o5,o6,o7,o8,o9,oa] at hc4
  refine wp_skip ?_
  refine k13 _ _ ?_
  refine sO H <| sd (does_add rfl rfl (by unfold i64ok; omega)) <| sr 1 rfl <| sE ?_;clear H a;intro a H
  exact k10 (g1 - 1) (k + 1) a _ (by omega) (⟨by omega, by omega, all_take (d := Gauge.zero) (by omega) hp.2.2 (by unfold gaugeOk; simp only [decide_eq_true_eq]; omega)⟩) (S.sel [1] rfl rfl) (H.keep [33, 2, 31, 32] rfl)
 refine wp_exit ?_
 refine k8 _ _ ?_
 refine sS H fun K18 k18=>sr 1 rfl <| sE ?_;clear H a;intro a H
 refine k18 _ ?_;clear k18 K18
 refine wp_ret ?_
 refine ret1 (fn := Try.f52) rfl H rfl ?_
 refine ⟨?_, (S.sel [] rfl rfl)⟩; unfold checkE; rw [if_pos (by unfold chainOk; simp only [decide_eq_true_eq]; omega), if_pos (by omega)]; rw [List.take_of_length_le (by omega)] at hp; rw [hp.2.2, if_pos rfl]

end Go.Proofs.Ytdepakimbagonaa
