/- DrA. Printed by gen.py. -/
import Derived.Test.YtdfjdkhgdmndjaaTpA
import Derived.Test.YtdfjdkhgdmndjaaDrv
import Derived.Test.YtdfjdkhgdmndjaaOps2
namespace Go.Proofs.Ytdfjdkhgdmndjaa
open Go.RowKit
set_option linter.unusedVariables false
set_option linter.unusedSimpArgs false
set_option maxRecDepth 100000
set_option maxHeartbeats 4000000


theorem dr_within (n lo hi : Int) (w : World) :
    Calls Try.prog 25 [.int .i64 n, .int .i64 lo, .int .i64 hi].toArray w (Ret (fun v w' => v = .bool (decide (lo ≤ n) && decide (n ≤ hi)) ∧ w' = w)) := by
 refine enter Try.func25 rfl Try.ntmps25 rfl (fun a H => ?_)
 have S := St.start w
 refine sS H fun K1 k1=>sr 1 rfl <| sE ?_;clear H a;intro a H
 refine k1 _ ?_;clear k1 K1
 replace H := H.keep [0, 1, 2] rfl
 refine sS H fun K2 k2=>sr 4 rfl <| sg 3 3 10 13 true rfl rfl (fun hg4 => sy hg4 <| sr 1 rfl <| sy hg4 <| sr 1 rfl <| sy hg4 <| sr 1 rfl <| sz 3 rfl rfl rfl) <| sa rfl rfl rfl <| sr 1 rfl <| sE ?_;clear H a;intro a H
 refine k2 _ ?_;clear k2 K2
 refine wp_ret ?_
 refine ret1 (fn := Try.f25) rfl H rfl ?_
 exact ⟨rfl, rfl⟩

theorem dref_Check (up : Bool) (empty pull drag motor : Int) (br : List Brake) (BA : Option Addr) (bcp : Nat) (w : World) (hb : InS w noF 2 BA br.length (bcell br)) (hbn : br.length ≤ 9223372036854775807) :
    Calls Try.prog 24 [.agg [.bool up, .int .i64 empty, .int .i64 pull, .int .i64 drag, .int .i64 motor, .slice BA br.length bcp].toArray].toArray w (Ret (fun v w' => v = .int .i64 (if escOk (⟨up, empty, pull, drag, motor, br⟩ : Esc) = true then 0 else 10) ∧ St w noF [] w')) := by
 refine enter Try.func24 rfl Try.ntmps24 rfl (fun a H => ?_)
 have S := St.start w
 refine seq_list fun K1 k1 => ?_
 refine list_box H rfl S rfl rfl ?_;clear H a S;intro b1 _ a hb1 hbw1 S H
 refine ls 1 H <| sr 1 rfl <| sE ?_;clear H a;intro a H
 refine k1 _ _ ?_;clear k1 K1
 refine wp_seq_k fun K2 k2 => ?_
 replace H := H.keep [1] rfl
 refine sS H fun K3 k3=>sf fo_29_1 rfl <| sl S 0 one_3 rfl rfl rfl <| sc rfl Try.func25 rfl rfl (dr_within _ _ _ _) <| sr 2 rfl <| sg 4 4 8 12 false rfl rfl (fun hg5 => sy hg5 <| sf fo_29_2 rfl <| sy hg5 <| sl S 0 one_3 rfl rfl rfl <| sy hg5 <| sc rfl Try.func25 rfl rfl (dr_within _ _ _ _) <| sy hg5 <| sr 1 rfl <| sz 4 rfl rfl rfl) <| so rfl rfl rfl <| sr 1 rfl <| sg 4 10 14 18 false rfl rfl (fun hg11 => sy hg11 <| sf fo_29_3 rfl <| sy hg11 <| sl S 0 one_3 rfl rfl rfl <| sy hg11 <| sc rfl Try.func25 rfl rfl (dr_within _ _ _ _) <| sy hg11 <| sr 1 rfl <| sz 4 rfl rfl rfl) <| so rfl rfl rfl <| sr 1 rfl <| sg 4 16 20 24 false rfl rfl (fun hg17 => sy hg17 <| sf fo_29_4 rfl <| sy hg17 <| sl S 0 one_3 rfl rfl rfl <| sy hg17 <| sc rfl Try.func25 rfl rfl (dr_within _ _ _ _) <| sy hg17 <| sr 1 rfl <| sz 4 rfl rfl rfl) <| so rfl rfl rfl <| sr 1 rfl <| sg 4 22 26 30 false rfl rfl (fun hg23 => sy hg23 <| sf fo_29_5 rfl <| sy hg23 <| sl S 0 one_27 rfl rfl rfl <| sy hg23 <| sL sl_27 rfl <| sy hg23 <| sr 1 rfl <| sz 4 rfl rfl rfl) <| so rfl rfl rfl <| sE ?_;clear H a;intro a H
 refine k3 _ ?_;clear k3 K3
 refine cond_ H rfl (fun hc1 => ?_) (fun hc1 => ?_)
 ·skip
  try simp only [o1,o2,o3,o4,o5,o6,o7,o8,o9,oa] at hc1
  replace H := H.keep [] rfl
  refine sS H fun K4 k4=>sr 1 rfl <| sE ?_;clear H a;intro a H
  refine k4 _ ?_;clear k4 K4
  refine wp_ret ?_
  refine ret1 (fn := Try.f24) rfl H rfl ?_
  refine ⟨?_, (S.sel [] rfl rfl)⟩; rw [if_neg (by unfold escOk; simp only [Bool.and_eq_true, decide_eq_true_eq]; rintro ⟨h1, _⟩; omega)]
 try simp only [o1,o2,o3,o4,o5,o6,o7,o8,o9,oa] at hc1
 refine wp_skip ?_
 refine k2 _ _ ?_
 refine wp_seq_k fun K5 k5 => ?_
 refine sS H fun K6 k6=>sr 1 rfl <| sE ?_;clear H a;intro a H
 refine k6 _ ?_;clear k6 K6
 refine wp_block ?_
 refine loop_st (X := Nat) (R0 := _) [1] H rfl (fun k => [(3, .int .i64 (k : Int))]) (fun k => []) (fun g k => k ≤ br.length ∧ g + k = br.length ∧ (br.take k).all brakeOk = true) (br.length) 0 ?_ (S.sel [0] rfl rfl) (H.keep [3, 1] rfl) ?_
 · exact ⟨by omega, by omega, by simp⟩
 clear H S a
 intro g1 x1 a w1 hp S H K7 k7
 obtain ⟨k, rfl⟩ : ∃ y, y = x1 := ⟨_, rfl⟩
 refine wp_seq_k fun K8 k8 => ?_
 refine sS H fun K9 k9=>sr 1 rfl <| sf fo_29_5 rfl <| sl S 0 one_27 rfl rfl rfl <| sL sl_27 rfl <| sr 1 rfl <| sE ?_;clear H a;intro a H
 refine k9 _ ?_;clear k9 K9
 refine condL H rfl (fun hc2 => ?_) (fun hc2 => ?_)
 ·skip
  refine wp_skip ?_
  refine k8 _ _ ?_
  refine wp_seq_k fun K10 k10 => ?_
  refine wp_block ?_
  replace H := H.keep [1, 3] rfl
  refine sS H fun K11 k11=>sf fo_29_5 rfl <| sl S 0 one_27 rfl rfl rfl <| sr 1 rfl <| si sl_27 sz_110 rfl rfl (hb.adr (by omega)) (by omega) <| sp fo_110_0 rfl <| slm one_3 rfl (hb.rd S (by omega) (by omega)) <| sc rfl Try.func25 rfl rfl (dr_within _ _ _ _) <| sr 2 rfl <| sg 8 8 47 55 false rfl rfl (fun hg9 => sy hg9 <| sf fo_29_5 rfl <| sy hg9 <| sl S 0 one_27 rfl rfl rfl <| sy hg9 <| sr 1 rfl <| sy hg9 <| si sl_27 sz_110 rfl rfl (hb.adr (by omega)) (by omega) <| sy hg9 <| sp fo_110_1 rfl <| sy hg9 <| slm one_3 rfl (hb.rd S (by omega) (by omega)) <| sy hg9 <| sc rfl Try.func25 rfl rfl (dr_within _ _ _ _) <| sy hg9 <| sr 1 rfl <| sz 8 rfl rfl rfl) <| so rfl rfl rfl <| sE ?_;clear H a;intro a H
  refine k11 _ ?_;clear k11 K11
  refine cond_ H rfl (fun hc3 => ?_) (fun hc3 => ?_)
  ·skip
   try simp only [o1,o2,o3,o4,o5,o6,o7,o8,o9,oa] at hc3
   replace H := H.keep [] rfl
   refine sS H fun K12 k12=>sr 1 rfl <| sE ?_;clear H a;intro a H
   refine k12 _ ?_;clear k12 K12
   refine wp_ret ?_
   refine ret1 (fn := Try.f24) rfl H rfl ?_
   refine ⟨?_, (S.sel [] rfl rfl)⟩; rw [if_neg (by unfold escOk; rw [all_false (l := br) (k := k) (d := Brake.zero) (by omega) (by unfold brakeOk; simp only [decide_eq_false_iff_not]; omega)]; simp)]
  try simp only [o1,o2,o3,o4,o5,o6,o7,o8,o9,oa] at hc3
  refine wp_skip ?_
  refine k10 _ _ ?_
  refine sO H <| sr 1 rfl <| sd (does_add rfl rfl (by unfold i64ok; omega)) <| sr 1 rfl <| sE ?_;clear H a;intro a H
  exact k7 (g1 - 1) (k + 1) a _ (by omega) (⟨by omega, by omega, all_take (d := Brake.zero) (by omega) hp.2.2 (by unfold brakeOk; simp only [decide_eq_true_eq]; omega)⟩) (S.sel [0] rfl rfl) (H.keep [3, 1] rfl)
 refine wp_exit ?_
 refine k5 _ _ ?_
 refine sS H fun K14 k14=>sr 1 rfl <| sE ?_;clear H a;intro a H
 refine k14 _ ?_;clear k14 K14
 refine wp_ret ?_
 refine ret1 (fn := Try.f24) rfl H rfl ?_
 refine ⟨?_, (S.sel [] rfl rfl)⟩; rw [List.take_of_length_le (by omega)] at hp; rw [if_pos (by unfold escOk; simp only [Bool.and_eq_true, decide_eq_true_eq]; exact ⟨by omega, hp.2.2⟩)]

theorem dref_CheckStop (up : Bool) (empty pull drag motor : Int) (br : List Brake) (BA : Option Addr) (bcp : Nat) (sp slo shi sfail : Int) (w : World) (hb : InS w noF 2 BA br.length (bcell br)) (hbn : br.length ≤ 9223372036854775807) :
    Calls Try.prog 8 [.agg [.bool up, .int .i64 empty, .int .i64 pull, .int .i64 drag, .int .i64 motor, .slice BA br.length bcp].toArray, .agg [.int .i64 sp, .int .i64 slo, .int .i64 shi, .int .i64 sfail].toArray].toArray w (Ret (fun v w' => v = .int .i64 (stopE (⟨up, empty, pull, drag, motor, br⟩ : Esc) (⟨sp, slo, shi, sfail⟩ : Stp)) ∧ St w noF [] w')) := by
 refine enter Try.func8 rfl Try.ntmps8 rfl (fun a H => ?_)
 have S := St.start w
 refine seq_list fun K1 k1 => ?_
 refine list_box H rfl S rfl rfl ?_;clear H a S;intro b2 _ a hb2 hbw2 S H
 refine list_box H rfl S rfl rfl ?_;clear H a S;intro b3 _ a hb3 hbw3 S H
 refine ls 1 H <| sr 1 rfl <| sE ?_;clear H a;intro a H
 refine k1 _ _ ?_;clear k1 K1
 refine wp_seq_k fun K2 k2 => ?_
 cases hesc : escOk (⟨up, empty, pull, drag, motor, br⟩ : Esc)
 ·skip
  refine seq_list fun K3 k3 => ?_
  refine ls 1 H <| sd ((does_loadBox agg_29 sz_29 rfl S (i := 1) rfl rfl)) <| sE ?_;clear H a;intro a H
  refine list_call H rfl rfl Try.func24 rfl rfl (dref_Check up empty pull drag motor br BA bcp _ (hb.now S) hbn) ?_;clear H a
  rintro _ _ a ⟨rfl, S2⟩ H
  replace S := S.call S2;clear S2
  rw [hesc] at H; simp only [if_true, Bool.false_eq_true, if_false] at H
  refine ls 1 H <| sr 1 rfl <| sE ?_;clear H a;intro a H
  refine k3 _ _ ?_;clear k3 K3
  refine condN H rfl (fun hc1 => ?_) (fun hc1 => ?_)
  ·skip
   refine sS H fun K4 k4=>sr 1 rfl <| sE ?_;clear H a;intro a H
   refine k4 _ ?_;clear k4 K4
   refine wp_ret ?_
   refine ret1 (fn := Try.f8) rfl H rfl ?_
   refine ⟨?_, (S.sel [] rfl rfl)⟩; unfold stopE; rw [if_neg (by rw [hesc]; simp)]
  all_goals first | (exfalso; omega) | (simp at hc1)
 replace H := H.keep [2, 3] rfl
 refine seq_list fun K5 k5 => ?_
 refine ls 1 H <| sd ((does_loadBox agg_29 sz_29 rfl S (i := 1) rfl rfl)) <| sE ?_;clear H a;intro a H
 refine list_call H rfl rfl Try.func24 rfl rfl (dref_Check up empty pull drag motor br BA bcp _ (hb.now S) hbn) ?_;clear H a
 rintro _ _ a ⟨rfl, S2⟩ H
 replace S := S.call S2;clear S2
 rw [hesc] at H; simp only [if_true, Bool.false_eq_true, if_false] at H
 refine ls 1 H <| sr 1 rfl <| sE ?_;clear H a;intro a H
 refine k5 _ _ ?_;clear k5 K5
 refine condN H rfl (fun hc2 => ?_) (fun hc2 => ?_)
 ·skip
  all_goals first | (exfalso; omega) | (simp at hc2)
 refine wp_skip ?_
 refine k2 _ _ ?_
 refine wp_seq_k fun K6 k6 => ?_
 have hE := esc_parts hesc
 dsimp only at hE
 obtain ⟨hE1, hE2, hE3, hE4, hE5⟩ := hE
 replace H := H.keep [2, 3] rfl
 refine sS H fun K7 k7=>sf fo_33_0 rfl <| sl S 0 one_3 rfl rfl rfl <| sc rfl Try.func25 rfl rfl (dr_within _ _ _ _) <| sr 2 rfl <| sg 4 4 12 16 false rfl rfl (fun hg5 => sy hg5 <| sf fo_33_1 rfl <| sy hg5 <| sf fo_31_0 rfl <| sy hg5 <| sl S 0 one_3 rfl rfl rfl <| sy hg5 <| sr 1 rfl <| sz 4 rfl rfl rfl) <| so rfl rfl rfl <| sr 1 rfl <| sg 7 10 18 25 false rfl rfl (fun hg11 => sy hg11 <| sf fo_33_1 rfl <| sy hg11 <| sf fo_31_1 rfl <| sy hg11 <| sl S 0 one_3 rfl rfl rfl <| sy hg11 <| sf fo_33_1 rfl <| sy hg11 <| sf fo_31_0 rfl <| sy hg11 <| sl S 0 one_3 rfl rfl rfl <| sy hg11 <| sr 1 rfl <| sz 7 rfl rfl rfl) <| so rfl rfl rfl <| sr 1 rfl <| sg 4 19 27 31 false rfl rfl (fun hg20 => sy hg20 <| sf fo_33_1 rfl <| sy hg20 <| sf fo_31_1 rfl <| sy hg20 <| sl S 0 one_3 rfl rfl rfl <| sy hg20 <| sr 1 rfl <| sz 4 rfl rfl rfl) <| so rfl rfl rfl <| sr 1 rfl <| sg 10 25 33 43 false rfl rfl (fun hg26 => sy hg26 <| sf fo_33_2 rfl <| sy hg26 <| sl S 0 one_3 rfl rfl rfl <| sy hg26 <| sf fo_29_5 rfl <| sy hg26 <| sl S 1 one_27 rfl rfl rfl <| sy hg26 <| sL sl_27 rfl <| sy hg26 <| sd (does_convert Try.underlying3 Try.underlying72 rfl (by first | omega | exact IntWalk.i64_in _ (by omega) | exact IntWalk.u64_in _ (by omega))) <| sy hg26 <| sd (does_shl rfl rfl (by omega) (by omega) (by unfold i64ok; omega)) <| sy hg26 <| sd (does_sub rfl rfl (by unfold i64ok; omega)) <| sy hg26 <| sc rfl Try.func25 rfl rfl (dr_within _ _ _ _) <| sy hg26 <| sr 1 rfl <| sz 10 rfl rfl rfl) <| so rfl rfl rfl <| sE ?_;clear H a;intro a H
 refine k7 _ ?_;clear k7 K7
 refine cond_ H rfl (fun hc3 => ?_) (fun hc3 => ?_)
 ·skip
  try simp only [o1,o2,o3,o4,o5,o6,o7,o8,o9,oa] at hc3
  replace H := H.keep [] rfl
  refine sS H fun K8 k8=>sr 1 rfl <| sE ?_;clear H a;intro a H
  refine k8 _ ?_;clear k8 K8
  refine wp_ret ?_
  refine ret1 (fn := Try.f8) rfl H rfl ?_
  refine ⟨?_, (S.sel [] rfl rfl)⟩; unfold stopE; rw [if_pos hesc, if_neg (by unfold stpOk; simp only [decide_eq_true_eq]; omega)]
 try simp only [o1,o2,o3,o4,o5,o6,o7,o8,o9,oa] at hc3
 refine wp_skip ?_
 refine k6 _ _ ?_
 refine sS H fun K9 k9=>sr 1 rfl <| sE ?_;clear H a;intro a H
 refine k9 _ ?_;clear k9 K9
 refine wp_ret ?_
 refine ret1 (fn := Try.f8) rfl H rfl ?_
 refine ⟨?_, (S.sel [] rfl rfl)⟩; unfold stopE; rw [if_pos hesc, if_pos (by unfold stpOk; simp only [decide_eq_true_eq]; omega)]

theorem dref_History (sp slo shi sfail : Int) (l : List Int) (A : Option Addr) (cp : Nat) (w : World) (hl : InS w noF 1 A l.length (icl l)) (hn : l.length ≤ 9223372036854775807) :
    Calls Try.prog 9 [.agg [.int .i64 sp, .int .i64 slo, .int .i64 shi, .int .i64 sfail].toArray, .slice A l.length cp].toArray w (Ret (fun v w' => v = .bool (histB slo shi l) ∧ St w noF [] w')) := by
 refine enter Try.func9 rfl Try.ntmps9 rfl (fun a H => ?_)
 have S := St.start w
 refine seq_list fun K1 k1 => ?_
 refine list_box H rfl S rfl rfl ?_;clear H a S;intro b2 _ a hb2 hbw2 S H
 refine ls 1 H <| sr 1 rfl <| sE ?_;clear H a;intro a H
 refine k1 _ _ ?_;clear k1 K1
 refine wp_seq_k fun K2 k2 => ?_
 refine sS H fun K3 k3=>sr 1 rfl <| sE ?_;clear H a;intro a H
 refine k3 _ ?_;clear k3 K3
 refine wp_block ?_
 refine loop_st (X := Nat) (R0 := _) [1, 2] H rfl (fun k => [(5, .int .i64 (k : Int))]) (fun k => []) (fun g k => k ≤ l.length ∧ g + k = l.length ∧ (l.take k).all (fun x => decide (slo ≤ x ∧ x ≤ shi)) = true) (l.length) 0 ?_ (S.sel [0] rfl rfl) (H.keep [5, 1, 2] rfl) ?_
 · exact ⟨by omega, by omega, by simp⟩
 clear H S a
 intro g1 x1 a w1 hp S H K4 k4
 obtain ⟨k, rfl⟩ : ∃ y, y = x1 := ⟨_, rfl⟩
 refine wp_seq_k fun K5 k5 => ?_
 refine sS H fun K6 k6=>sr 2 rfl <| sL sl_36 rfl <| sr 1 rfl <| sE ?_;clear H a;intro a H
 refine k6 _ ?_;clear k6 K6
 refine condL H rfl (fun hc1 => ?_) (fun hc1 => ?_)
 ·skip
  refine wp_skip ?_
  refine k5 _ _ ?_
  refine wp_seq_k fun K7 k7 => ?_
  refine wp_block ?_
  replace H := H.keep [1, 2, 5] rfl
  replace S := S.drew
  refine sD H fun K8 k8=>sr 2 rfl <| si sl_36 sz_3 rfl rfl (hl.adr (by omega)) (by omega) <| slm one_3 rfl (hl.rd S (by omega) (by omega)) <| sf fo_33_1 rfl <| sf fo_31_0 rfl <| sl S 0 one_3 rfl rfl rfl <| sf fo_33_1 rfl <| sf fo_31_1 rfl <| sl S 0 one_3 rfl rfl rfl <| sc rfl Try.func25 rfl rfl (dr_within _ _ _ _) <| sr 1 rfl <| sE ?_;clear H a;intro a H
  refine k8 _ ?_;clear k8 K8
  refine cond_ H rfl (fun hc2 => ?_) (fun hc2 => ?_)
  ·skip
   try simp only [o1,o2,o3,o4,o5,o6,o7,o8,o9,oa] at hc2
   replace H := H.keep [] rfl
   refine sS H fun K9 k9=>sr 1 rfl <| sE ?_;clear H a;intro a H
   refine k9 _ ?_;clear k9 K9
   refine wp_ret ?_
   refine ret1 (fn := Try.f9) rfl H rfl ?_
   refine ⟨?_, (S.sel [] rfl rfl)⟩; unfold histB; rw [all_false (k := k) (d := 0) (by omega) (by simp only [decide_eq_false_iff_not]; omega)]; rfl
  try simp only [o1,o2,o3,o4,o5,o6,o7,o8,o9,oa] at hc2
  refine wp_skip ?_
  refine k7 _ _ ?_
  refine sO H <| sr 1 rfl <| sd (does_add rfl rfl (by unfold i64ok; omega)) <| sr 1 rfl <| sE ?_;clear H a;intro a H
  exact k4 (g1 - 1) (k + 1) a _ (by omega) (⟨by omega, by omega, all_take (d := 0) (by omega) hp.2.2 (by simp only [decide_eq_true_eq]; omega)⟩) (S.sel [0] rfl rfl) (H.keep [5, 1, 2] rfl)
 refine wp_exit ?_
 refine k2 _ _ ?_
 refine sS H fun K11 k11=>sr 1 rfl <| sL sl_36 rfl <| sr 2 rfl <| sE ?_;clear H a;intro a H
 refine k11 _ ?_;clear k11 K11
 refine wp_ret ?_
 refine ret1 (fn := Try.f9) rfl H rfl ?_
 refine ⟨?_, (S.sel [] rfl rfl)⟩; rw [List.take_of_length_le (by omega)] at hp; unfold histB; rw [hp.2.2, Bool.true_and]; exact congrArg Value.bool (decide_eq_decide.2 (by omega))

theorem dref_Rest (v0 : Int) (l : List Int) (A : Option Addr) (cp : Nat) (w : World) (hl : InS w noF 1 A l.length (icl l)) (hn : l.length ≤ 1000) (hb : ∀ k, k < l.length → -1000000000000 ≤ l.getD k 0 ∧ l.getD k 0 ≤ 1000000000000) :
    Calls Try.prog 15 [.int .i64 v0, .slice A l.length cp].toArray w (Ret (fun v w' => (∃ n : Int, v = .tuple #[.int .i64 (restI v0 l).1, .int .i64 n, .bool (restI v0 l).2]) ∧ St w noF [] w')) := by
 refine enter Try.func15 rfl Try.ntmps15 rfl (fun a H => ?_)
 have S := St.start w
 refine sS H fun K1 k1=>sr 3 rfl <| sE ?_;clear H a;intro a H
 refine k1 _ ?_;clear k1 K1
 refine wp_seq_k fun K2 k2 => ?_
 refine sS H fun K3 k3=>sr 2 rfl <| sE ?_;clear H a;intro a H
 refine k3 _ ?_;clear k3 K3
 refine condE H rfl (fun hc1 => ?_) (fun hc1 => ?_)
 ·skip
  refine sS H fun K4 k4=>sr 3 rfl <| sE ?_;clear H a;intro a H
  refine k4 _ ?_;clear k4 K4
  refine wp_ret ?_
  refine ret3 (fn := Try.f15) rfl H rfl rfl rfl ?_
  exact ⟨⟨_, by rw [rest_zero (by omega)]⟩, (S.sel [] rfl rfl)⟩
 refine wp_skip ?_
 refine k2 _ _ ?_
 refine wp_seq_k fun K5 k5 => ?_
 refine sS H fun K6 k6=>sr 1 rfl <| sE ?_;clear H a;intro a H
 refine k6 _ ?_;clear k6 K6
 refine wp_block ?_
 refine loop_st (X := Nat) (R0 := _) [1] H rfl (fun k => [(4, .int .i64 (sumTo l k)), (7, .int .i64 (k : Int))]) (fun k => []) (fun g k => k ≤ l.length ∧ g + k = l.length ∧ (∀ q, q < k → l.getD q 0 ≠ 0)) (l.length) 0 ?_ (S.sel [] rfl rfl) (H.keep [4, 7, 1] rfl) ?_
 · exact ⟨by omega, by omega, fun q hq => absurd hq (Nat.not_lt_zero _)⟩
 clear H S a
 intro g1 x1 a w1 hp S H K7 k7
 obtain ⟨k, rfl⟩ : ∃ y, y = x1 := ⟨_, rfl⟩
 refine wp_seq_k fun K8 k8 => ?_
 refine sS H fun K9 k9=>sr 2 rfl <| sL sl_36 rfl <| sr 1 rfl <| sE ?_;clear H a;intro a H
 refine k9 _ ?_;clear k9 K9
 refine condL H rfl (fun hc2 => ?_) (fun hc2 => ?_)
 ·skip
  refine wp_skip ?_
  refine k8 _ _ ?_
  refine wp_seq_k fun K10 k10 => ?_
  refine wp_block ?_
  have hk8 := hb k (by omega); have hs8 := sumTo_bd hb k (by omega)
  replace H := H.keep [1, 4, 7] rfl
  refine sS H fun K11 k11=>sr 3 rfl <| si sl_36 sz_3 rfl rfl (hl.adr (by omega)) (by omega) <| slm one_3 rfl (hl.rd S (by omega) (by omega)) <| sd (does_add rfl rfl (by unfold i64ok; omega)) <| sr 1 rfl <| sE ?_;clear H a;intro a H
  refine k11 _ ?_;clear k11 K11
  replace H := H.keep [1, 4, 7] rfl
  refine sS H fun K12 k12=>sr 2 rfl <| si sl_36 sz_3 rfl rfl (hl.adr (by omega)) (by omega) <| slm one_3 rfl (hl.rd S (by omega) (by omega)) <| sr 1 rfl <| sE ?_;clear H a;intro a H
  refine k12 _ ?_;clear k12 K12
  refine condE H rfl (fun hc3 => ?_) (fun hc3 => ?_)
  ·skip
   replace H := H.keep [4, 7] rfl
   refine sS H fun K13 k13=>sr 2 rfl <| sd (does_add rfl rfl (by unfold i64ok; omega)) <| sr 3 rfl <| sE ?_;clear H a;intro a H
   refine k13 _ ?_;clear k13 K13
   refine wp_ret ?_
   refine ret3 (fn := Try.f15) rfl H rfl rfl rfl ?_
   have hnx := sumTo_succ (l := l) (k := k) (by omega)
   exact ⟨⟨(k : Int) + 1, by rw [rest_at (by omega) (by omega) hp.2.2 (by omega), hnx]⟩, (S.sel [] rfl rfl)⟩
  refine wp_skip ?_
  refine k10 _ _ ?_
  refine sO H <| sr 1 rfl <| sd (does_add rfl rfl (by unfold i64ok; omega)) <| sr 1 rfl <| sE ?_;clear H a;intro a H
  have hnx := sumTo_succ (l := l) (k := k) (by omega)
  rw [← hnx] at H
  exact k7 (g1 - 1) (k + 1) a _ (by omega) (⟨by omega, by omega, fun q hq => (by rcases Nat.lt_succ_iff_lt_or_eq.1 hq with h | h; exact hp.2.2 q h; rw [h]; omega)⟩) (S.sel [] rfl rfl) (H.keep [4, 7, 1] rfl)
 refine wp_exit ?_
 refine k5 _ _ ?_
 replace H := H.keep [1, 4] rfl
 refine sS H fun K15 k15=>sr 2 rfl <| sL sl_36 rfl <| sr 3 rfl <| sE ?_;clear H a;intro a H
 refine k15 _ ?_;clear k15 K15
 refine wp_ret ?_
 refine ret3 (fn := Try.f15) rfl H rfl rfl rfl ?_
 have hk9 : k = l.length := by omega
 subst hk9
 exact ⟨⟨(l.length : Int), by rw [rest_none (by omega) hp.2.2]⟩, (S.sel [] rfl rfl)⟩

theorem dlaw_Far (up : Bool) (empty pull drag motor : Int) (br : List Brake) (BA : Option Addr) (bcp : Nat) (w : World) :
    Calls Try.prog 6 [.agg [.bool up, .int .i64 empty, .int .i64 pull, .int .i64 drag, .int .i64 motor, .slice BA br.length bcp].toArray].toArray w (Ret (fun v w' => v = .bool (decide (10 < (br.length : Int))) ∧ St w noF [] w')) := by
 refine enter Try.func6 rfl Try.ntmps6 rfl (fun a H => ?_)
 have S := St.start w
 refine seq_list fun K1 k1 => ?_
 refine list_box H rfl S rfl rfl ?_;clear H a S;intro b1 _ a hb1 hbw1 S H
 refine ls 1 H <| sr 1 rfl <| sE ?_;clear H a;intro a H
 refine k1 _ _ ?_;clear k1 K1
 refine sS H fun K2 k2=>sf fo_29_5 rfl <| sl S 0 one_27 rfl rfl rfl <| sL sl_27 rfl <| sr 2 rfl <| sE ?_;clear H a;intro a H
 refine k2 _ ?_;clear k2 K2
 refine wp_ret ?_
 refine ret1 (fn := Try.f6) rfl H rfl ?_
 exact ⟨rfl, (S.sel [] rfl rfl)⟩

end Go.Proofs.Ytdfjdkhgdmndjaa
