/- ChL. Printed by gen.py. -/
import Derived.Test.YtopmadlgolnmfaaChK
import Derived.Test.YtopmadlgolnmfaaF1
namespace Go.Proofs.Ytopmadlgolnmfaa
open Go.RowKit
set_option linter.unusedVariables false
set_option linter.unusedSimpArgs false
set_option maxRecDepth 100000
set_option maxHeartbeats 4000000


theorem chain_CheckPart (rates : List (Int × Int)) (pwn ptn pag : Int) (RA : Option Addr) (rcp : Nat) (l : List Use) (A : Option Addr) (cp : Nat) (w : World) (hr : InS w noF 2 RA rates.length (scell rates)) (hrn : rates.length ≤ 9223372036854775807) (hl : InS w noF 6 A l.length (ucell l)) (hn : l.length ≤ 9223372036854775807) :
    Calls Try.prog 51 [.agg [.slice RA rates.length rcp, .int .i64 pwn, .int .i64 ptn, .int .i64 pag].toArray, .slice A l.length cp].toArray w (Ret (fun v w' => v = .int .i64 (checkP (⟨rates, pwn, ptn, pag⟩ : Part) l) ∧ St w noF [] w')) := by
 refine enter Try.func51 rfl Try.ntmps51 rfl (fun a H => ?_)
 have S := St.start w
 refine seq_list fun K1 k1 => ?_
 refine list_box H rfl S rfl rfl ?_;clear H a S;intro b2 _ a hb2 hbw2 S H
 refine ls 1 H <| sr 1 rfl <| sE ?_;clear H a;intro a H
 refine k1 _ _ ?_;clear k1 K1
 refine wp_seq_k fun K2 k2 => ?_
 replace H := H.keep [1, 2] rfl
 refine sS H fun K3 k3=>sf fo_62_0 rfl <| sl S 0 one_58 rfl rfl rfl <| sL sl_58 rfl <| sc rfl Try.func76 rfl rfl (chain_within _ _ _ _) <| sr 2 rfl <| sg 4 5 15 19 false rfl rfl (fun hg6 => sy hg6 <| sf fo_62_1 rfl <| sy hg6 <| sl S 0 one_3 rfl rfl rfl <| sy hg6 <| sc rfl Try.func76 rfl rfl (chain_within _ _ _ _) <| sy hg6 <| sr 1 rfl <| sz 4 rfl rfl rfl) <| so rfl rfl rfl <| sr 1 rfl <| sg 4 11 21 25 false rfl rfl (fun hg12 => sy hg12 <| sf fo_62_2 rfl <| sy hg12 <| sl S 0 one_3 rfl rfl rfl <| sy hg12 <| sc rfl Try.func76 rfl rfl (chain_within _ _ _ _) <| sy hg12 <| sr 1 rfl <| sz 4 rfl rfl rfl) <| so rfl rfl rfl <| sr 1 rfl <| sg 4 17 27 31 false rfl rfl (fun hg18 => sy hg18 <| sf fo_62_3 rfl <| sy hg18 <| sl S 0 one_3 rfl rfl rfl <| sy hg18 <| sc rfl Try.func76 rfl rfl (chain_within _ _ _ _) <| sy hg18 <| sr 1 rfl <| sz 4 rfl rfl rfl) <| so rfl rfl rfl <| sE ?_;clear H a;intro a H
 refine k3 _ ?_;clear k3 K3
 refine cond_ H rfl (fun hc1 => ?_) (fun hc1 => ?_)
 ·skip
  try simp only [o1,o2,o3,o4,o5,o6,o7,o8,o9,oa] at hc1
  replace H := H.keep [] rfl
  refine sS H fun K4 k4=>sr 1 rfl <| sE ?_;clear H a;intro a H
  refine k4 _ ?_;clear k4 K4
  refine wp_ret ?_
  refine ret1 (fn := Try.f51) rfl H rfl ?_
  refine ⟨?_, (S.sel [] rfl rfl)⟩; unfold checkP; rw [if_neg (by unfold partHdr; simp only [decide_eq_true_eq]; omega)]
 try simp only [o1,o2,o3,o4,o5,o6,o7,o8,o9,oa] at hc1
 refine wp_skip ?_
 refine k2 _ _ ?_
 refine wp_seq_k fun K5 k5 => ?_
 have hhd : partHdr (⟨rates, pwn, ptn, pag⟩ : Part) = true := by unfold partHdr; simp only [decide_eq_true_eq]; omega
 refine sS H fun K6 k6=>sf fo_62_0 rfl <| sl S 0 one_58 rfl rfl rfl <| sL sl_58 rfl <| sr 1 rfl <| sE ?_;clear H a;intro a H
 refine k6 _ ?_;clear k6 K6
 refine wp_block ?_
 refine loop_st (X := Nat) (R0 := _) [1, 2, 34, 35] H rfl (fun k => [(36, .int .i64 (k : Int))]) (fun k => []) (fun g k => k ≤ rates.length ∧ g + k = rates.length ∧ (rates.take k).all rateOk = true) (rates.length) 0 ?_ (S.sel [0] rfl rfl) (H.keep [36, 1, 2, 34, 35] rfl) ?_
 · exact ⟨by omega, by omega, by simp⟩
 clear H S a
 intro g1 x1 a w1 hp S H K7 k7
 obtain ⟨k, rfl⟩ : ∃ y, y = x1 := ⟨_, rfl⟩
 refine sS H fun K8 k8=>sr 1 rfl <| sE ?_;clear H a;intro a H
 refine k8 _ ?_;clear k8 K8
 refine wp_seq_k fun K9 k9 => ?_
 refine condL H rfl (fun hc2 => ?_) (fun hc2 => ?_)
 ·skip
  refine wp_skip ?_
  refine k9 _ _ ?_
  refine wp_seq_k fun K10 k10 => ?_
  refine wp_block ?_
  refine seq_list fun K11 k11 => ?_
  refine ls 2 H <| si sl_58 sz_68 rfl rfl (hr.adr (by omega)) (by omega) <| sd ((does_loadIn agg_68 sz_68 rfl S hr (by omega) (by omega))) <| sE ?_;clear H a;intro a H
  refine list_alloc H rfl S ze_68 ?_;clear H a S;intro b6 _ a hb6 hbw6 S H
  refine list_store H S (i := 0) rfl rfl rfl rfl sz_68 rfl rfl ?_
  clear H a S;intro _ a S H
  refine k11 _ _ ?_;clear k11 K11
  replace H := H.keep [1, 2, 6, 34, 35, 36] rfl
  refine sS H fun K12 k12=>sf fo_68_0 rfl <| sl S 0 one_3 rfl rfl rfl <| sr 2 rfl <| sg 5 3 43 48 false rfl rfl (fun hg4 => sy hg4 <| sf fo_68_1 rfl <| sy hg4 <| sl S 0 one_3 rfl rfl rfl <| sy hg4 <| sf fo_68_0 rfl <| sy hg4 <| sl S 0 one_3 rfl rfl rfl <| sy hg4 <| sr 1 rfl <| sz 5 rfl rfl rfl) <| so rfl rfl rfl <| sr 1 rfl <| sg 3 10 50 53 false rfl rfl (fun hg11 => sy hg11 <| sf fo_68_1 rfl <| sy hg11 <| sl S 0 one_3 rfl rfl rfl <| sy hg11 <| sr 1 rfl <| sz 3 rfl rfl rfl) <| so rfl rfl rfl <| sE ?_;clear H a;intro a H
  refine k12 _ ?_;clear k12 K12
  refine cond_ H rfl (fun hc3 => ?_) (fun hc3 => ?_)
  ·skip
   try simp only [o1,o2,o3,o4,o5,o6,o7,o8,o9,oa] at hc3
   replace H := H.keep [] rfl
   refine sS H fun K13 k13=>sr 1 rfl <| sE ?_;clear H a;intro a H
   refine k13 _ ?_;clear k13 K13
   refine wp_ret ?_
   refine ret1 (fn := Try.f51) rfl H rfl ?_
   refine ⟨?_, (S.sel [] rfl rfl)⟩; unfold checkP; rw [if_pos hhd]; (try dsimp only); rw [all_false (k := k) (d := (0, 0)) (by omega) (by unfold rateOk; simp only [decide_eq_false_iff_not]; omega)]; rfl
  try simp only [o1,o2,o3,o4,o5,o6,o7,o8,o9,oa] at hc3
  refine wp_skip ?_
  refine k10 _ _ ?_
  refine sO H <| sd (does_add rfl rfl (by unfold i64ok; omega)) <| sr 1 rfl <| sE ?_;clear H a;intro a H
  exact k7 (g1 - 1) (k + 1) a _ (by omega) (⟨by omega, by omega, all_take (d := (0, 0)) (by omega) hp.2.2 (by unfold rateOk; simp only [decide_eq_true_eq]; omega)⟩) (S.sel [1] rfl rfl) (H.keep [36, 1, 2, 34, 35] rfl)
 refine wp_exit ?_
 refine k5 _ _ ?_
 refine wp_seq_k fun K15 k15 => ?_
 have hrt : rates.all rateOk = true := by have h9 := hp.2.2; rw [List.take_of_length_le (by omega)] at h9; exact h9
 refine sS H fun K16 k16=>sr 1 rfl <| sL sl_63 rfl <| sr 1 rfl <| sE ?_;clear H a;intro a H
 refine k16 _ ?_;clear k16 K16
 refine condL H rfl (fun hc4 => ?_) (fun hc4 => ?_)
 ·skip
  refine sS H fun K17 k17=>sr 1 rfl <| sE ?_;clear H a;intro a H
  refine k17 _ ?_;clear k17 K17
  refine wp_ret ?_
  refine ret1 (fn := Try.f51) rfl H rfl ?_
  refine ⟨?_, (S.sel [] rfl rfl)⟩; unfold checkP; rw [if_pos hhd, if_pos hrt, if_neg (by omega)]
 refine wp_skip ?_
 refine k15 _ _ ?_
 refine sS H fun K18 k18=>sr 1 rfl <| sE ?_;clear H a;intro a H
 refine k18 _ ?_;clear k18 K18
 refine wp_seq_k fun K19 k19 => ?_
 replace H := H.keep [1, 2, 7] rfl
 refine sS H fun K20 k20=>sr 1 rfl <| sL sl_63 rfl <| sr 1 rfl <| sE ?_;clear H a;intro a H
 refine k20 _ ?_;clear k20 K20
 refine wp_block ?_
 refine loop_st (X := Nat) (R0 := _) [2, 59, 60] H rfl (fun j => [(7, .int .i64 (prevD l j)), (61, .int .i64 (j : Int))]) (fun j => []) (fun g j => j ≤ l.length ∧ g + j = l.length ∧ usesTo rates.length l j = true) (l.length) 0 ?_ (S.sel [0] rfl rfl) (H.keep [7, 61, 2, 59, 60] rfl) ?_
 · exact ⟨by omega, by omega, rfl⟩
 clear H S a
 intro g2 x2 a w2 hp S H K21 k21
 obtain ⟨j, rfl⟩ : ∃ y, y = x2 := ⟨_, rfl⟩
 refine sS H fun K22 k22=>sr 1 rfl <| sE ?_;clear H a;intro a H
 refine k22 _ ?_;clear k22 K22
 refine wp_seq_k fun K23 k23 => ?_
 refine condL H rfl (fun hc5 => ?_) (fun hc5 => ?_)
 ·skip
  refine wp_skip ?_
  refine k23 _ _ ?_
  refine wp_seq_k fun K24 k24 => ?_
  refine wp_block ?_
  refine seq_list fun K25 k25 => ?_
  refine ls 2 H <| si sl_63 sz_72 rfl rfl (hl.adr (by omega)) (by omega) <| sd ((does_loadIn agg_72 sz_72 rfl S hl (by omega) (by omega))) <| sE ?_;clear H a;intro a H
  refine list_alloc H rfl S ze_72 ?_;clear H a S;intro b9 _ a hb9 hbw9 S H
  refine list_store H S (i := 0) rfl rfl rfl rfl sz_72 rfl rfl ?_
  clear H a S;intro _ a S H
  refine k25 _ _ ?_;clear k25 K25
  refine wp_seq_k fun K26 k26 => ?_
  replace H := H.keep [2, 7, 9, 59, 60, 61] rfl
  refine sS H fun K27 k27=>sf fo_72_0 rfl <| sl S 0 one_3 rfl rfl rfl <| sr 1 rfl <| sc rfl Try.func76 rfl rfl (chain_within _ _ _ _) <| sr 2 rfl <| sg 4 5 70 74 false rfl rfl (fun hg6 => sy hg6 <| sf fo_72_1 rfl <| sy hg6 <| sl S 0 one_3 rfl rfl rfl <| sy hg6 <| sc rfl Try.func76 rfl rfl (chain_within _ _ _ _) <| sy hg6 <| sr 1 rfl <| sz 4 rfl rfl rfl) <| so rfl rfl rfl <| sr 1 rfl <| sg 8 11 76 84 false rfl rfl (fun hg12 => sy hg12 <| sf fo_72_2 rfl <| sy hg12 <| sl S 0 one_3 rfl rfl rfl <| sy hg12 <| sf fo_62_0 rfl <| sy hg12 <| sl S 1 one_58 rfl rfl rfl <| sy hg12 <| sL sl_58 rfl <| sy hg12 <| sd (does_sub rfl rfl (by unfold i64ok; omega)) <| sy hg12 <| sc rfl Try.func76 rfl rfl (chain_within _ _ _ _) <| sy hg12 <| sr 1 rfl <| sz 8 rfl rfl rfl) <| so rfl rfl rfl <| sE ?_;clear H a;intro a H
  refine k27 _ ?_;clear k27 K27
  refine cond_ H rfl (fun hc6 => ?_) (fun hc6 => ?_)
  ·skip
   try simp only [o1,o2,o3,o4,o5,o6,o7,o8,o9,oa] at hc6
   replace H := H.keep [] rfl
   refine sS H fun K28 k28=>sr 1 rfl <| sE ?_;clear H a;intro a H
   refine k28 _ ?_;clear k28 K28
   refine wp_ret ?_
   refine ret1 (fn := Try.f51) rfl H rfl ?_
   refine ⟨?_, (S.sel [] rfl rfl)⟩; unfold checkP; rw [if_pos hhd, if_pos hrt, if_pos (by omega)]; unfold usesTo; rw [range_all_false (k := j) (by omega) (by unfold useOk; simp only [decide_eq_false_iff_not]; omega)]; rfl
  try simp only [o1,o2,o3,o4,o5,o6,o7,o8,o9,oa] at hc6
  refine wp_skip ?_
  refine k26 _ _ ?_
  refine wp_seq_k fun K29 k29 => ?_
  replace H := H.keep [2, 9, 59, 60, 61] rfl
  refine sS H fun K30 k30=>sf fo_72_4 rfl <| sf fo_68_0 rfl <| sl S 0 one_3 rfl rfl rfl <| sr 2 rfl <| sg 7 4 90 97 false rfl rfl (fun hg5 => sy hg5 <| sf fo_72_4 rfl <| sy hg5 <| sf fo_68_1 rfl <| sy hg5 <| sl S 0 one_3 rfl rfl rfl <| sy hg5 <| sf fo_72_4 rfl <| sy hg5 <| sf fo_68_0 rfl <| sy hg5 <| sl S 0 one_3 rfl rfl rfl <| sy hg5 <| sr 1 rfl <| sz 7 rfl rfl rfl) <| so rfl rfl rfl <| sr 1 rfl <| sg 4 13 99 103 false rfl rfl (fun hg14 => sy hg14 <| sf fo_72_4 rfl <| sy hg14 <| sf fo_68_1 rfl <| sy hg14 <| sl S 0 one_3 rfl rfl rfl <| sy hg14 <| sr 1 rfl <| sz 4 rfl rfl rfl) <| so rfl rfl rfl <| sr 1 rfl <| sg 9 19 105 114 false rfl rfl (fun hg20 => sy hg20 <| sf fo_72_3 rfl <| sy hg20 <| sl S 0 one_4 rfl rfl rfl <| sy hg20 <| sr 1 rfl <| sy hg20 <| sr 1 rfl <| sg 4 23 109 113 true rfl rfl (fun hg24 => sy hg24 <| sf fo_72_4 rfl <| sy hg24 <| sd ((does_loadBox agg_68 sz_68 rfl S (i := 0) rfl rfl)) <| sy hg24 <| sd (does_build bt_68 rfl rfl) <| sy hg24 <| sd (does_neq_span rfl rfl) <| sz 4 rfl rfl rfl) <| sy hg20 <| sa rfl rfl rfl <| sz 6 rfl rfl rfl) <| so rfl rfl rfl <| sE ?_;clear H a;intro a H
  refine k30 _ ?_;clear k30 K30
  refine cond_ H rfl (fun hc7 => ?_) (fun hc7 => ?_)
  ·skip
   try simp only [o1,o2,o3,o4,o5,o6,o7,o8,o9,oa] at hc7
   replace H := H.keep [] rfl
   refine sS H fun K31 k31=>sr 1 rfl <| sE ?_;clear H a;intro a H
   refine k31 _ ?_;clear k31 K31
   refine wp_ret ?_
   refine ret1 (fn := Try.f51) rfl H rfl ?_
   refine ⟨?_, (S.sel [] rfl rfl)⟩; unfold checkP; rw [if_pos hhd, if_pos hrt, if_pos (by omega)]; unfold usesTo; rw [range_all_false (k := j) (by omega) (by unfold useOk; simp only [decide_eq_false_iff_not]; generalize l.getD j Use.zero = u at hc6 hc7 ⊢; rintro ⟨_, _, _, _, hm⟩; cases hq : u.meas <;> simp [hq] at hc7 hm <;> omega)]; rfl
  try simp only [o1,o2,o3,o4,o5,o6,o7,o8,o9,oa] at hc7
  refine wp_skip ?_
  refine k29 _ _ ?_
  refine sO H <| sf fo_72_0 rfl <| sl S 0 one_3 rfl rfl rfl <| sr 1 rfl <| sE ?_;clear H a;intro a H
  refine k24 _ _ ?_
  refine sO H <| sd (does_add rfl rfl (by unfold i64ok; omega)) <| sr 1 rfl <| sE ?_;clear H a;intro a H
  exact k21 (g2 - 1) (j + 1) a _ (by omega) (⟨by omega, by omega, by unfold usesTo; rw [range_all_succ (n := 0)]; have h9 := hp.2.2; unfold usesTo at h9; rw [h9]; simp only [Bool.true_and]; unfold useOk; simp only [decide_eq_true_eq]; generalize l.getD j Use.zero = u at hc6 hc7 ⊢; refine ⟨by omega, by omega, by omega, by omega, fun hm => ?_⟩; simp [hm] at hc7; omega⟩) (S.sel [1] rfl rfl) (H.keep [7, 61, 2, 59, 60] rfl)
 refine wp_exit ?_
 refine k19 _ _ ?_
 refine sS H fun K34 k34=>sr 1 rfl <| sE ?_;clear H a;intro a H
 refine k34 _ ?_;clear k34 K34
 refine wp_ret ?_
 refine ret1 (fn := Try.f51) rfl H rfl ?_
 refine ⟨?_, (S.sel [] rfl rfl)⟩; have hj9 : j = l.length := by omega
 unfold checkP; rw [if_pos hhd, if_pos hrt, if_pos (by omega)]; rw [hj9] at hp; dsimp only; rw [if_pos hp.2.2]

theorem chain_grown (rates : List (Int × Int)) (pwn ptn pag : Int) (RA : Option Addr) (rcp : Nat) (u : Use) (w : World) (hr : InS w noF 2 RA rates.length (scell rates)) (hrn : rates.length ≤ 9223372036854775807) (hcl : 0 ≤ u.cls ∧ u.cls < rates.length) (hg1 : i64ok (grownS (⟨rates, pwn, ptn, pag⟩ : Part) u).1) (hg2 : i64ok (grownS (⟨rates, pwn, ptn, pag⟩ : Part) u).2) :
    Calls Try.prog 111 [.agg [.slice RA rates.length rcp, .int .i64 pwn, .int .i64 ptn, .int .i64 pag].toArray, .agg [.int .i64 u.day, .int .i64 u.turns, .int .i64 u.cls, .bool u.meas, .int .i64 u.lo, .int .i64 u.hi].toArray].toArray w (Ret (fun v w' => v = .agg [.int .i64 (grownS (⟨rates, pwn, ptn, pag⟩ : Part) u).1, .int .i64 (grownS (⟨rates, pwn, ptn, pag⟩ : Part) u).2].toArray ∧ St w noF [] w')) := by
 refine enter Try.func111 rfl Try.ntmps111 rfl (fun a H => ?_)
 have S := St.start w
 refine seq_list fun K1 k1 => ?_
 refine list_box H rfl S rfl rfl ?_;clear H a S;intro b2 _ a hb2 hbw2 S H
 refine list_box H rfl S rfl rfl ?_;clear H a S;intro b3 _ a hb3 hbw3 S H
 refine list_alloc H rfl S ze_68 ?_;clear H a S;intro b4 _ a hb4 hbw4 S H
 refine k1 _ _ ?_;clear k1 K1
 replace H := H.keep [2, 3, 4] rfl
 refine seq_list fun K2 k2 => ?_
 refine ls 6 H <| sf fo_62_0 rfl <| sl S 2 one_58 rfl rfl rfl <| sf fo_72_2 rfl <| sl S 1 one_3 rfl rfl rfl <| sI sl_58 sz_68 rfl rfl (hr.adr (by omega)) (by omega) (by omega) <| sd ((does_loadIn agg_68 sz_68 rfl S hr (by omega) (by omega))) <| sE ?_;clear H a;intro a H
 refine list_alloc H rfl S ze_68 ?_;clear H a S;intro b5 _ a hb5 hbw5 S H
 refine list_store H S (i := 0) rfl rfl rfl rfl sz_68 rfl rfl ?_
 clear H a S;intro _ a S H
 refine k2 _ _ ?_;clear k2 K2
 replace H := H.keep [3, 4, 5] rfl
 refine seq_list fun K3 k3 => ?_
 refine ls 11 H <| sf fo_72_1 rfl <| sl S 2 one_3 rfl rfl rfl <| sf fo_68_0 rfl <| sl S 0 one_3 rfl rfl rfl <| sd (does_mul rfl rfl (by exact hg1)) <| sf fo_72_1 rfl <| sl S 2 one_3 rfl rfl rfl <| sf fo_68_1 rfl <| sl S 0 one_3 rfl rfl rfl <| sd (does_mul rfl rfl (by exact hg2)) <| sd (does_build bt_68 rfl rfl) <| sE ?_;clear H a;intro a H
 refine list_store H S (i := 1) rfl rfl rfl rfl sz_68 rfl rfl ?_
 clear H a S;intro _ a S H
 refine k3 _ _ ?_;clear k3 K3
 refine wp_ret ?_
 refine retA (fn := Try.f111) rfl H rfl agg_68 (by exact sz_68) (boxAgg S (i := 1) rfl) ?_
 exact ⟨rfl, (S.sel [] rfl rfl)⟩

theorem chain_meet (a1 a2 b1 b2 : Int) (w : World) :
    Calls Try.prog 112 [.agg [.int .i64 a1, .int .i64 a2].toArray, .agg [.int .i64 b1, .int .i64 b2].toArray].toArray w (Ret (fun v w' => v = .tuple #[.agg [.int .i64 (meetS (a1, a2) (b1, b2)).1, .int .i64 (meetS (a1, a2) (b1, b2)).2].toArray, .bool (decide ((meetS (a1, a2) (b1, b2)).1 ≤ (meetS (a1, a2) (b1, b2)).2))] ∧ St w noF [] w')) := by
 refine enter Try.func112 rfl Try.ntmps112 rfl (fun a H => ?_)
 have S := St.start w
 refine seq_list fun K1 k1 => ?_
 refine list_box H rfl S rfl rfl ?_;clear H a S;intro b2 _ a hb2 hbw2 S H
 refine list_box H rfl S rfl rfl ?_;clear H a S;intro b3 _ a hb3 hbw3 S H
 refine list_alloc H rfl S ze_68 ?_;clear H a S;intro b4 _ a hb4 hbw4 S H
 refine ls 1 H <| sr 1 rfl <| sE ?_;clear H a;intro a H
 refine k1 _ _ ?_;clear k1 K1
 replace H := H.keep [2, 3, 4] rfl
 refine seq_list fun K2 k2 => ?_
 refine ls 11 H <| sf fo_68_0 rfl <| sl S 2 one_3 rfl rfl rfl <| sf fo_68_0 rfl <| sl S 1 one_3 rfl rfl rfl <| sd (does_max rfl rfl) <| sf fo_68_1 rfl <| sl S 2 one_3 rfl rfl rfl <| sf fo_68_1 rfl <| sl S 1 one_3 rfl rfl rfl <| sd (does_min rfl rfl) <| sd (does_build bt_68 rfl rfl) <| sE ?_;clear H a;intro a H
 refine list_alloc H rfl S ze_68 ?_;clear H a S;intro b6 _ a hb6 hbw6 S H
 refine list_store H S (i := 0) rfl rfl rfl rfl sz_68 rfl rfl ?_
 clear H a S;intro _ a S H
 refine k2 _ _ ?_;clear k2 K2
 replace H := H.keep [4, 6] rfl
 replace S := S.drew
 refine seq_wq [(0, true), (1, true), (2, true), (3, true), (4, true), (5, true), (6, false), (7, true)] (by kernel_rfl) (by kernel_rfl) (S.sel [0, 2, 3] rfl rfl) fun K3 k3 => ?_
 refine qF H <| qd rfl (fun _ S => (does_loadBox agg_68 sz_68 rfl S (i := 0) rfl rfl)) <| qd rfl (fun _ S => (does_field fo_68_0 rfl)) <| qd rfl (fun _ S => does_load one_3 rfl (boxM.rd S (i := 0) rfl rfl)) <| qd rfl (fun _ S => (does_field fo_68_1 rfl)) <| qd rfl (fun _ S => does_load one_3 rfl (boxM.rd S (i := 0) rfl rfl)) <| qr 1 rfl <| qK ?_;clear H a;intro a H
 refine wq_eff rfl ?_
 refine list_store H S (i := 1) rfl rfl rfl rfl sz_68 rfl rfl ?_
 clear H a S;intro _ a S H
 refine wpList_nil (And.intro (S.sel [0, 2, 3] rfl rfl) ?_)
 refine qF H <| qr 1 rfl <| qK ?_;clear H a;intro a H
 refine wq_nil ?_
 refine k3 _ _ ?_
 clear k3 K3
 refine wp_ret ?_
 refine retA1 (fn := Try.f112) rfl H rfl agg_68 (by exact sz_68) (boxAgg S (i := 1) rfl) rfl ?_
 exact ⟨rfl, (S.sel [] rfl rfl)⟩

end Go.Proofs.Ytopmadlgolnmfaa
