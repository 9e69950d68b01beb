/- GaA. Printed by gen.py. -/
import Derived.Test.YtdepakimbagonaaFacts
import Derived.Test.YtdepakimbagonaaE2
import Derived.Test.YtdepakimbagonaaE1
import Derived.Test.YtdepakimbagonaaTpA
namespace Go.Proofs.Ytdepakimbagonaa
open Go.RowKit
set_option linter.unusedVariables false
set_option linter.unusedSimpArgs false
set_option maxRecDepth 100000
set_option maxHeartbeats 4000000


structure Rdg where
  says : Int
  err : Int
  drift : Int
  days : Int
def Rdg.zero : Rdg := ⟨0, 0, 0, 0⟩
def Rdg.cell (r : Rdg) : Nat → Value
  | 0 => .int .i64 r.says
  | 1 => .int .i64 r.err
  | 2 => .int .i64 r.drift
  | _ => .int .i64 r.days
def rdcell (l : List Rdg) (k j : Nat) : Value := (l.getD k Rdg.zero).cell j
def rdOk (r : Rdg) : Bool := decide ((-100000 ≤ r.says ∧ r.says ≤ 100000) ∧ (0 ≤ r.err ∧ r.err ≤ 1000) ∧ (0 ≤ r.drift ∧ r.drift ≤ 1000) ∧ (0 ≤ r.days ∧ r.days ≤ 1000))
def rdE (l : List Rdg) : Int := if 12 < l.length then 2 else if l.all rdOk = true then 0 else 100
def wideI (r : Rdg) : Int := r.err + r.drift * r.days
theorem rdE_many {l : List Rdg} (h : (12 : Int) < l.length) : rdE l = 2 := by unfold rdE; rw [if_pos (by omega)]
theorem rdE_bad {l : List Rdg} {k : Nat} (h : l.length ≤ 12) (hk : k < l.length) (hb : rdOk (l.getD k Rdg.zero) = false) : rdE l = 100 := by
  unfold rdE; rw [if_neg (by omega), all_false (l := l) (k := k) (d := Rdg.zero) hk hb, if_neg (by simp)]
theorem rdE_ok {l : List Rdg} (h : l.length ≤ 12) (hb : l.all rdOk = true) : rdE l = 0 := by
  unfold rdE; rw [if_neg (by omega), hb, if_pos rfl]


theorem fau_within (n lo hi : Int) (w : World) :
    Calls Try.prog 51 [.int .i64 n, .int .i64 lo, .int .i64 hi].toArray w (Ret (fun v w' => v = .bool (decide (lo ≤ n) && decide (n ≤ hi)) ∧ w' = w)) := by
 refine enter Try.func51 rfl Try.ntmps51 rfl (fun a H => ?_)
 have S := St.start w
 refine sS H fun K1 k1=>sr 1 rfl <| sE ?_;clear H a;intro a H
 refine k1 _ ?_;clear k1 K1
 replace H := H.keep [0, 1, 2] rfl
 refine sS H fun K2 k2=>sr 4 rfl <| sg 3 3 10 13 true rfl rfl (fun hg4 => sy hg4 <| sr 1 rfl <| sy hg4 <| sr 1 rfl <| sy hg4 <| sr 1 rfl <| sz 3 rfl rfl rfl) <| sa rfl rfl rfl <| sr 1 rfl <| sE ?_;clear H a;intro a H
 refine k2 _ ?_;clear k2 K2
 refine wp_ret ?_
 refine ret1 (fn := Try.f51) rfl H rfl ?_
 exact ⟨rfl, rfl⟩

theorem rten_from (n lo hi : Int) (w : World) :
    Calls Try.prog 50 [.int .i64 n, .int .i64 lo, .int .i64 hi].toArray w (Ret (fun v w' => v = .bool (decide (lo ≤ n) && decide (n ≤ hi)) ∧ w' = w)) := by
 refine enter Try.func50 rfl Try.ntmps50 rfl (fun a H => ?_)
 have S := St.start w
 refine sS H fun K1 k1=>sr 1 rfl <| sE ?_;clear H a;intro a H
 refine k1 _ ?_;clear k1 K1
 replace H := H.keep [0, 1, 2] rfl
 refine sS H fun K2 k2=>sr 4 rfl <| sg 3 3 10 13 true rfl rfl (fun hg4 => sy hg4 <| sr 1 rfl <| sy hg4 <| sr 1 rfl <| sy hg4 <| sr 1 rfl <| sz 3 rfl rfl rfl) <| sa rfl rfl rfl <| sr 1 rfl <| sE ?_;clear H a;intro a H
 refine k2 _ ?_;clear k2 K2
 refine wp_ret ?_
 refine ret1 (fn := Try.f50) rfl H rfl ?_
 exact ⟨rfl, rfl⟩

theorem fau_readings (l : List Rdg) (A : Option Addr) (cp : Nat) (w : World) (hl : InS w noF 4 A l.length (rdcell l)) (hn : l.length ≤ 9223372036854775807) :
    Calls Try.prog 30 [.slice A l.length cp].toArray w (Ret (fun u w' => u = .int .i64 (rdE l) ∧ St w noF [] w')) := by
 refine enter Try.func30 rfl Try.ntmps30 rfl (fun a H => ?_)
 have S := St.start w
 refine sS H fun K1 k1=>sr 1 rfl <| sE ?_;clear H a;intro a H
 refine k1 _ ?_;clear k1 K1
 refine wp_seq_k fun K2 k2 => ?_
 refine sS H fun K3 k3=>sr 1 rfl <| sL sl_26 rfl <| sr 1 rfl <| sE ?_;clear H a;intro a H
 refine k3 _ ?_;clear k3 K3
 refine condL H rfl (fun hc1 => ?_) (fun hc1 => ?_)
 ·skip
  refine sS H fun K4 k4=>sr 1 rfl <| sE ?_;clear H a;intro a H
  refine k4 _ ?_;clear k4 K4
  refine wp_ret ?_
  refine ret1 (fn := Try.f30) rfl H rfl ?_
  exact ⟨congrArg _ (rdE_many hc1).symm, (S.sel [] rfl rfl)⟩
 refine wp_skip ?_
 refine k2 _ _ ?_
 refine wp_seq_k fun K5 k5 => ?_
 refine sS H fun K6 k6=>sr 1 rfl <| sL sl_26 rfl <| sr 1 rfl <| sE ?_;clear H a;intro a H
 refine k6 _ ?_;clear k6 K6
 refine wp_block ?_
 refine loop_st (X := Nat) (R0 := _) [8, 9] H rfl (fun k => [(10, .int .i64 (k : Int))]) (fun k => []) (fun g k => k ≤ l.length ∧ g + k = l.length ∧ (l.take k).all rdOk = true) (l.length) 0 ?_ (S.sel [] rfl rfl) (H.keep [10, 8, 9] rfl) ?_
 · exact ⟨by omega, by omega, by simp⟩
 clear H S a
 intro g1 x1 a w1 hp S H K7 k7
 obtain ⟨k, rfl⟩ : ∃ y, y = x1 := ⟨_, rfl⟩
 refine sS H fun K8 k8=>sr 1 rfl <| sE ?_;clear H a;intro a H
 refine k8 _ ?_;clear k8 K8
 refine wp_seq_k fun K9 k9 => ?_
 refine condL H rfl (fun hc2 => ?_) (fun hc2 => ?_)
 ·skip
  refine wp_skip ?_
  refine k9 _ _ ?_
  refine wp_seq_k fun K10 k10 => ?_
  refine wp_block ?_
  refine seq_list fun K11 k11 => ?_
  refine ls 2 H <| si sl_26 sz_95 rfl rfl (hl.adr (by omega)) (by omega) <| sd ((does_loadIn agg_95 sz_95 rfl S hl (by omega) (by omega))) <| sE ?_;clear H a;intro a H
  refine list_alloc H rfl S ze_95 ?_;clear H a S;intro b4 _ a hb4 hbw4 S H
  refine list_store H S (i := 0) rfl rfl rfl rfl sz_95 rfl rfl ?_
  clear H a S;intro _ a S H
  refine k11 _ _ ?_;clear k11 K11
  replace H := H.keep [4, 8, 9, 10] rfl
  refine sS H fun K12 k12=>sf fo_95_0 rfl <| sl S 0 one_3 rfl rfl rfl <| sc rfl Try.func51 rfl rfl (fau_within _ _ _ _) <| sr 2 rfl <| sg 4 4 18 22 false rfl rfl (fun hg5 => sy hg5 <| sf fo_95_1 rfl <| sy hg5 <| sl S 0 one_3 rfl rfl rfl <| sy hg5 <| sc rfl Try.func51 rfl rfl (fau_within _ _ _ _) <| sy hg5 <| sr 1 rfl <| sz 4 rfl rfl rfl) <| so rfl rfl rfl <| sr 1 rfl <| sg 4 10 24 28 false rfl rfl (fun hg11 => sy hg11 <| sf fo_95_2 rfl <| sy hg11 <| sl S 0 one_3 rfl rfl rfl <| sy hg11 <| sc rfl Try.func51 rfl rfl (fau_within _ _ _ _) <| sy hg11 <| sr 1 rfl <| sz 4 rfl rfl rfl) <| so rfl rfl rfl <| sr 1 rfl <| sg 4 16 30 34 false rfl rfl (fun hg17 => sy hg17 <| sf fo_95_3 rfl <| sy hg17 <| sl S 0 one_3 rfl rfl rfl <| sy hg17 <| sc rfl Try.func51 rfl rfl (fau_within _ _ _ _) <| sy hg17 <| sr 1 rfl <| sz 4 rfl rfl rfl) <| so rfl rfl rfl <| sE ?_;clear H a;intro a H
  refine k12 _ ?_;clear k12 K12
  refine cond_ H rfl (fun hc3 => ?_) (fun hc3 => ?_)
  ·skip
   try simp only [o1,o2,o3,o4,o5,o6,o7,o8,o9,oa] at hc3
   replace H := H.keep [] rfl
   refine sS H fun K13 k13=>sr 1 rfl <| sE ?_;clear H a;intro a H
   refine k13 _ ?_;clear k13 K13
   refine wp_ret ?_
   refine ret1 (fn := Try.f30) rfl H rfl ?_
   rw [rdE_bad (k := k) (by omega) (by omega) (by unfold rdOk; simp only [decide_eq_false_iff_not]; omega)]; exact ⟨rfl, (S.sel [] rfl rfl)⟩
  try simp only [o1,o2,o3,o4,o5,o6,o7,o8,o9,oa] at hc3
  refine wp_skip ?_
  refine k10 _ _ ?_
  refine sO H <| sd (does_add rfl rfl (by unfold i64ok; omega)) <| sr 1 rfl <| sE ?_;clear H a;intro a H
  exact k7 (g1 - 1) (k + 1) a _ (by omega) (⟨by omega, by omega, all_take (d := Rdg.zero) (by omega) hp.2.2 (by unfold rdOk; simp only [decide_eq_true_eq]; omega)⟩) (S.sel [] rfl rfl) (H.keep [10, 8, 9] rfl)
 refine wp_exit ?_
 refine k5 _ _ ?_
 refine sS H fun K15 k15=>sr 1 rfl <| sE ?_;clear H a;intro a H
 refine k15 _ ?_;clear k15 K15
 refine wp_ret ?_
 refine ret1 (fn := Try.f30) rfl H rfl ?_
 rw [List.take_of_length_le (by omega)] at hp; rw [rdE_ok (by omega) hp.2.2]; exact ⟨rfl, (S.sel [] rfl rfl)⟩

theorem rten_Check (l : List Rdg) (A : Option Addr) (cp : Nat) (w : World) (hl : InS w noF 4 A l.length (rdcell l)) (hn : l.length ≤ 9223372036854775807) :
    Calls Try.prog 28 [.slice A l.length cp].toArray w (Ret (fun u w' => u = .int .i64 (rdE l) ∧ St w noF [] w')) := by
 refine enter Try.func28 rfl Try.ntmps28 rfl (fun a H => ?_)
 have S := St.start w
 refine sS H fun K1 k1=>sr 1 rfl <| sE ?_;clear H a;intro a H
 refine k1 _ ?_;clear k1 K1
 refine wp_seq_k fun K2 k2 => ?_
 refine sS H fun K3 k3=>sr 1 rfl <| sL sl_26 rfl <| sr 1 rfl <| sE ?_;clear H a;intro a H
 refine k3 _ ?_;clear k3 K3
 refine condL H rfl (fun hc1 => ?_) (fun hc1 => ?_)
 ·skip
  refine sS H fun K4 k4=>sr 1 rfl <| sE ?_;clear H a;intro a H
  refine k4 _ ?_;clear k4 K4
  refine wp_ret ?_
  refine ret1 (fn := Try.f28) rfl H rfl ?_
  exact ⟨congrArg _ (rdE_many hc1).symm, (S.sel [] rfl rfl)⟩
 refine wp_skip ?_
 refine k2 _ _ ?_
 refine wp_seq_k fun K5 k5 => ?_
 refine sS H fun K6 k6=>sr 1 rfl <| sE ?_;clear H a;intro a H
 refine k6 _ ?_;clear k6 K6
 refine wp_block ?_
 refine loop_st (X := Nat) (R0 := _) [0] H rfl (fun k => [(3, .int .i64 (k : Int))]) (fun k => []) (fun g k => k ≤ l.length ∧ g + k = l.length ∧ (l.take k).all rdOk = true) (l.length) 0 ?_ (S.sel [] rfl rfl) (H.keep [3, 0] rfl) ?_
 · exact ⟨by omega, by omega, by simp⟩
 clear H S a
 intro g1 x1 a w1 hp S H K7 k7
 obtain ⟨k, rfl⟩ : ∃ y, y = x1 := ⟨_, rfl⟩
 refine wp_seq_k fun K8 k8 => ?_
 refine sS H fun K9 k9=>sr 2 rfl <| sL sl_26 rfl <| sr 1 rfl <| sE ?_;clear H a;intro a H
 refine k9 _ ?_;clear k9 K9
 refine condL H rfl (fun hc2 => ?_) (fun hc2 => ?_)
 ·skip
  refine wp_skip ?_
  refine k8 _ _ ?_
  refine wp_seq_k fun K10 k10 => ?_
  refine wp_block ?_
  replace H := H.keep [0, 3] rfl
  refine sS H fun K11 k11=>sr 2 rfl <| si sl_26 sz_95 rfl rfl (hl.adr (by omega)) (by omega) <| sp fo_95_0 rfl <| slm one_3 rfl (hl.rd S (by omega) (by omega)) <| sc rfl Try.func50 rfl rfl (rten_from _ _ _ _) <| sr 2 rfl <| sg 7 7 20 27 false rfl rfl (fun hg8 => sy hg8 <| sr 1 rfl <| sy hg8 <| sr 1 rfl <| sy hg8 <| si sl_26 sz_95 rfl rfl (hl.adr (by omega)) (by omega) <| sy hg8 <| sp fo_95_1 rfl <| sy hg8 <| slm one_3 rfl (hl.rd S (by omega) (by omega)) <| sy hg8 <| sc rfl Try.func50 rfl rfl (rten_from _ _ _ _) <| sy hg8 <| sr 1 rfl <| sz 7 rfl rfl rfl) <| so rfl rfl rfl <| sr 1 rfl <| sg 7 16 29 36 false rfl rfl (fun hg17 => sy hg17 <| sr 1 rfl <| sy hg17 <| sr 1 rfl <| sy hg17 <| si sl_26 sz_95 rfl rfl (hl.adr (by omega)) (by omega) <| sy hg17 <| sp fo_95_2 rfl <| sy hg17 <| slm one_3 rfl (hl.rd S (by omega) (by omega)) <| sy hg17 <| sc rfl Try.func50 rfl rfl (rten_from _ _ _ _) <| sy hg17 <| sr 1 rfl <| sz 7 rfl rfl rfl) <| so rfl rfl rfl <| sr 1 rfl <| sg 7 25 38 45 false rfl rfl (fun hg26 => sy hg26 <| sr 1 rfl <| sy hg26 <| sr 1 rfl <| sy hg26 <| si sl_26 sz_95 rfl rfl (hl.adr (by omega)) (by omega) <| sy hg26 <| sp fo_95_3 rfl <| sy hg26 <| slm one_3 rfl (hl.rd S (by omega) (by omega)) <| sy hg26 <| sc rfl Try.func50 rfl rfl (rten_from _ _ _ _) <| sy hg26 <| sr 1 rfl <| sz 7 rfl rfl rfl) <| so rfl rfl rfl <| sE ?_;clear H a;intro a H
  refine k11 _ ?_;clear k11 K11
  refine cond_ H rfl (fun hc3 => ?_) (fun hc3 => ?_)
  ·skip
   try simp only [o1,o2,o3,o4,o5,o6,o7,o8,o9,oa] at hc3
   replace H := H.keep [] rfl
   refine sS H fun K12 k12=>sr 1 rfl <| sE ?_;clear H a;intro a H
   refine k12 _ ?_;clear k12 K12
   refine wp_ret ?_
   refine ret1 (fn := Try.f28) rfl H rfl ?_
   rw [rdE_bad (k := k) (by omega) (by omega) (by unfold rdOk; simp only [decide_eq_false_iff_not]; omega)]; exact ⟨rfl, (S.sel [] rfl rfl)⟩
  try simp only [o1,o2,o3,o4,o5,o6,o7,o8,o9,oa] at hc3
  refine wp_skip ?_
  refine k10 _ _ ?_
  refine sO H <| sr 1 rfl <| sd (does_add rfl rfl (by unfold i64ok; omega)) <| sr 1 rfl <| sE ?_;clear H a;intro a H
  exact k7 (g1 - 1) (k + 1) a _ (by omega) (⟨by omega, by omega, all_take (d := Rdg.zero) (by omega) hp.2.2 (by unfold rdOk; simp only [decide_eq_true_eq]; omega)⟩) (S.sel [] rfl rfl) (H.keep [3, 0] rfl)
 refine wp_exit ?_
 refine k5 _ _ ?_
 refine sS H fun K14 k14=>sr 1 rfl <| sE ?_;clear H a;intro a H
 refine k14 _ ?_;clear k14 K14
 refine wp_ret ?_
 refine ret1 (fn := Try.f28) rfl H rfl ?_
 rw [List.take_of_length_le (by omega)] at hp; rw [rdE_ok (by omega) hp.2.2]; exact ⟨rfl, (S.sel [] rfl rfl)⟩

end Go.Proofs.Ytdepakimbagonaa
