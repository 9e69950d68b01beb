/- WyH. Printed by gen.py. -/
import Derived.Test.YtopmadlgolnmfaaWyG
import Derived.Test.YtopmadlgolnmfaaE4
namespace Go.Proofs.Ytopmadlgolnmfaa
open Go.RowKit
set_option linter.unusedVariables false
set_option linter.unusedSimpArgs false
set_option maxRecDepth 100000
set_option maxHeartbeats 4000000


theorem ways_within (n lo hi : Int) (w : World) :
    Calls Try.prog 42 [.int .i64 n, .int .i64 lo, .int .i64 hi].toArray w (Ret (fun v w' => v = .bool (decide (lo ≤ n) && decide (n ≤ hi)) ∧ w' = w)) := by
 refine enter Try.func42 rfl Try.ntmps42 rfl (fun a H => ?_)
 have S := St.start w
 refine sS H fun K1 k1=>sr 1 rfl <| sE ?_;clear H a;intro a H
 refine k1 _ ?_;clear k1 K1
 replace H := H.keep [0, 1, 2] rfl
 refine sS H fun K2 k2=>sr 4 rfl <| sg 3 3 10 13 true rfl rfl (fun hg4 => sy hg4 <| sr 1 rfl <| sy hg4 <| sr 1 rfl <| sy hg4 <| sr 1 rfl <| sz 3 rfl rfl rfl) <| sa rfl rfl rfl <| sr 1 rfl <| sE ?_;clear H a;intro a H
 refine k2 _ ?_;clear k2 K2
 refine wp_ret ?_
 refine ret1 (fn := Try.f42) rfl H rfl ?_
 exact ⟨rfl, rfl⟩

theorem ways_passage (p1 p2 p3 p4 p5 p6 p7 pl : Int) (w : World) (hpl : -1000 ≤ pl ∧ pl ≤ 1000) :
    Calls Try.prog 65 [.agg [.int .i64 p1, .int .i64 p2, .int .i64 p3, .int .i64 p4, .int .i64 p5, .int .i64 p6, .int .i64 p7].toArray, .int .i64 pl].toArray w (Ret (fun v w' => v = .bool (psgOk pl (⟨p1, p2, p3, p4, p5, p6, p7⟩ : Psg)) ∧ St w noF [] w')) := by
 refine enter Try.func65 rfl Try.ntmps65 rfl (fun a H => ?_)
 have S := St.start w
 refine seq_list fun K1 k1 => ?_
 refine list_box H rfl S rfl rfl ?_;clear H a S;intro b2 _ a hb2 hbw2 S H
 refine ls 1 H <| sr 1 rfl <| sE ?_;clear H a;intro a H
 refine k1 _ _ ?_;clear k1 K1
 refine wp_seq_k fun K2 k2 => ?_
 replace H := H.keep [1, 2] rfl
 refine sS H fun K3 k3=>sf fo_128_0 rfl <| sl S 0 one_3 rfl rfl rfl <| sr 1 rfl <| sd (does_sub rfl rfl (by unfold i64ok; omega)) <| sc rfl Try.func42 rfl rfl (ways_within _ _ _ _) <| sr 2 rfl <| sg 6 6 11 17 false rfl rfl (fun hg7 => sy hg7 <| sf fo_128_1 rfl <| sy hg7 <| sl S 0 one_3 rfl rfl rfl <| sy hg7 <| sr 1 rfl <| sy hg7 <| sd (does_sub rfl rfl (by unfold i64ok; omega)) <| sy hg7 <| sc rfl Try.func42 rfl rfl (ways_within _ _ _ _) <| sy hg7 <| sr 1 rfl <| sz 6 rfl rfl rfl) <| so rfl rfl rfl <| sr 1 rfl <| sg 5 14 19 24 false rfl rfl (fun hg15 => sy hg15 <| sf fo_128_0 rfl <| sy hg15 <| sl S 0 one_3 rfl rfl rfl <| sy hg15 <| sf fo_128_1 rfl <| sy hg15 <| sl S 0 one_3 rfl rfl rfl <| sy hg15 <| sr 1 rfl <| sz 5 rfl rfl rfl) <| so rfl rfl rfl <| sr 1 rfl <| sg 4 21 26 30 false rfl rfl (fun hg22 => sy hg22 <| sf fo_128_3 rfl <| sy hg22 <| sl S 0 one_3 rfl rfl rfl <| sy hg22 <| sc rfl Try.func42 rfl rfl (ways_within _ _ _ _) <| sy hg22 <| sr 1 rfl <| sz 4 rfl rfl rfl) <| so rfl rfl rfl <| sr 1 rfl <| sg 4 27 32 36 false rfl rfl (fun hg28 => sy hg28 <| sf fo_128_4 rfl <| sy hg28 <| sl S 0 one_3 rfl rfl rfl <| sy hg28 <| sc rfl Try.func42 rfl rfl (ways_within _ _ _ _) <| sy hg28 <| sr 1 rfl <| sz 4 rfl rfl rfl) <| so rfl rfl rfl <| sE ?_;clear H a;intro a H
 refine k3 _ ?_;clear k3 K3
 refine cond_ H rfl (fun hc1 => ?_) (fun hc1 => ?_)
 ·skip
  try simp only [o1,o2,o3,o4,o5,o6,o7,o8,o9,oa] at hc1
  replace H := H.keep [] rfl
  refine sS H fun K4 k4=>sr 1 rfl <| sE ?_;clear H a;intro a H
  refine k4 _ ?_;clear k4 K4
  refine wp_ret ?_
  refine ret1 (fn := Try.f65) rfl H rfl ?_
  refine ⟨congrArg Value.bool ?_, (S.sel [] rfl rfl)⟩; exact (psgOk_not (by first | omega | (dsimp only; omega))).symm
 try simp only [o1,o2,o3,o4,o5,o6,o7,o8,o9,oa] at hc1
 refine wp_skip ?_
 refine k2 _ _ ?_
 refine wp_seq_k fun K5 k5 => ?_
 refine sS H fun K6 k6=>sf fo_128_2 rfl <| sl S 0 one_3 rfl rfl rfl <| sE ?_;clear H a;intro a H
 refine k6 _ ?_;clear k6 K6
 refine wp_block ?_
 have SR := (S.sel [0] rfl rfl)
 refine meet_sr (X := Bool) [2, 39] H rfl (fun q => [(40, .bool q)]) (fun q => []) (fun q => q = decide (p3 = 1 ∨ p3 = 2 ∨ p3 = 5)) SR (fun K8 k8 => ?_) ?_
 ·skip
  refine sS H fun K9 k9=>sr 2 rfl <| sE ?_;clear H a;intro a H
  refine k9 _ ?_;clear k9 K9
  refine condE H rfl (fun hc2 => ?_) (fun hc2 => ?_)
  ·skip
   refine wp_skip ?_
   exact k8 _ a _ (decide_eq_decide.2 (by omega)) (S.sel [0] rfl rfl) (H.keep [40, 2, 39] rfl)
  refine sS H fun K10 k10=>sr 2 rfl <| sE ?_;clear H a;intro a H
  refine k10 _ ?_;clear k10 K10
  refine condE H rfl (fun hc3 => ?_) (fun hc3 => ?_)
  ·skip
   refine wp_skip ?_
   exact k8 _ a _ (decide_eq_decide.2 (by omega)) (S.sel [0] rfl rfl) (H.keep [40, 2, 39] rfl)
  refine sO H <| sr 2 rfl <| sE ?_;clear H a;intro a H
  exact k8 _ a _ (decide_eq_decide.2 (by omega)) (S.sel [0] rfl rfl) (H.keep [40, 2, 39] rfl)
 clear SR H S a
 intro xm a wm hp S H
 obtain ⟨q, rfl⟩ : ∃ y, y = xm := ⟨_, rfl⟩
 subst hp
 refine cond_ H rfl (fun hc4 => ?_) (fun hc4 => ?_)
 ·skip
  simp only [o7, o8] at hc4
  replace H := H.keep [2] rfl
  refine sS H fun K12 k12=>sf fo_128_5 rfl <| sl S 0 one_3 rfl rfl rfl <| sr 2 rfl <| sg 3 3 47 50 true rfl rfl (fun hg4 => sy hg4 <| sf fo_128_6 rfl <| sy hg4 <| sl S 0 one_3 rfl rfl rfl <| sy hg4 <| sr 1 rfl <| sz 3 rfl rfl rfl) <| sa rfl rfl rfl <| sr 1 rfl <| sE ?_;clear H a;intro a H
  refine k12 _ ?_;clear k12 K12
  refine wp_ret ?_
  refine ret1 (fn := Try.f65) rfl H rfl ?_
  refine ⟨congrArg Value.bool ?_, (S.sel [] rfl rfl)⟩; unfold psgOk; rw [← Bool.decide_and]; exact decide_eq_decide.2 (by first | omega | (dsimp only; omega))
 simp only [o7, o8] at hc4
 replace H := H.keep [2, 39] rfl
 refine sS H fun K13 k13=>sr 2 rfl <| sE ?_;clear H a;intro a H
 refine k13 _ ?_;clear k13 K13
 refine condE H rfl (fun hc5 => ?_) (fun hc5 => ?_)
 ·skip
  replace H := H.keep [2] rfl
  refine sS H fun K14 k14=>sf fo_128_5 rfl <| sl S 0 one_3 rfl rfl rfl <| sc rfl Try.func42 rfl rfl (ways_within _ _ _ _) <| sr 1 rfl <| sg 3 3 57 60 true rfl rfl (fun hg4 => sy hg4 <| sf fo_128_6 rfl <| sy hg4 <| sl S 0 one_3 rfl rfl rfl <| sy hg4 <| sc rfl Try.func42 rfl rfl (ways_within _ _ _ _) <| sz 3 rfl rfl rfl) <| sa rfl rfl rfl <| sr 1 rfl <| sE ?_;clear H a;intro a H
  refine k14 _ ?_;clear k14 K14
  refine wp_ret ?_
  refine ret1 (fn := Try.f65) rfl H rfl ?_
  refine ⟨congrArg Value.bool ?_, (S.sel [] rfl rfl)⟩; unfold psgOk; simp only [← Bool.decide_and]; exact decide_eq_decide.2 (by first | omega | (dsimp only; omega))
 replace H := H.keep [2, 39] rfl
 refine sS H fun K15 k15=>sr 2 rfl <| sE ?_;clear H a;intro a H
 refine k15 _ ?_;clear k15 K15
 refine condE H rfl (fun hc6 => ?_) (fun hc6 => ?_)
 ·skip
  replace H := H.keep [2] rfl
  refine sS H fun K16 k16=>sf fo_128_5 rfl <| sl S 0 one_3 rfl rfl rfl <| sc rfl Try.func42 rfl rfl (ways_within _ _ _ _) <| sr 1 rfl <| sg 3 3 67 70 true rfl rfl (fun hg4 => sy hg4 <| sf fo_128_6 rfl <| sy hg4 <| sl S 0 one_3 rfl rfl rfl <| sy hg4 <| sr 1 rfl <| sz 3 rfl rfl rfl) <| sa rfl rfl rfl <| sr 1 rfl <| sE ?_;clear H a;intro a H
  refine k16 _ ?_;clear k16 K16
  refine wp_ret ?_
  refine ret1 (fn := Try.f65) rfl H rfl ?_
  refine ⟨congrArg Value.bool ?_, (S.sel [] rfl rfl)⟩; unfold psgOk; simp only [← Bool.decide_and]; exact decide_eq_decide.2 (by first | omega | (dsimp only; omega))
 refine wp_skip ?_
 refine k5 _ _ ?_
 replace H := H.keep [] rfl
 refine sS H fun K17 k17=>sr 1 rfl <| sE ?_;clear H a;intro a H
 refine k17 _ ?_;clear k17 K17
 refine wp_ret ?_
 refine ret1 (fn := Try.f65) rfl H rfl ?_
 refine ⟨congrArg Value.bool ?_, (S.sel [] rfl rfl)⟩; exact (psgOk_not (by first | omega | (dsimp only; omega))).symm

theorem ways_Check (pl : Int) (ps : List Psg) (PA : Option Addr) (pc : Nat) (xs : List Int) (XA : Option Addr) (xc : Nat) (w : World) (hps : InS w noF 7 PA ps.length (pcell ps)) (hpn : ps.length ≤ 9223372036854775807) (hxs : InS w noF 1 XA xs.length (icl xs)) (hxn : xs.length ≤ 9223372036854775807) :
    Calls Try.prog 40 [.agg [.int .i64 pl, .slice PA ps.length pc, .slice XA xs.length xc].toArray].toArray w (Ret (fun v w' => v = .int .i64 (stE pl ps xs) ∧ St w noF [] w')) := by
 refine enter Try.func40 rfl Try.ntmps40 rfl (fun a H => ?_)
 have S := St.start w
 refine seq_list fun K1 k1 => ?_
 refine list_box H rfl S rfl rfl ?_;clear H a S;intro b1 _ a hb1 hbw1 S H
 refine ls 1 H <| sr 1 rfl <| sE ?_;clear H a;intro a H
 refine k1 _ _ ?_;clear k1 K1
 refine wp_seq_k fun K2 k2 => ?_
 replace H := H.keep [1] rfl
 refine sS H fun K3 k3=>sf fo_25_0 rfl <| sl S 0 one_3 rfl rfl rfl <| sc rfl Try.func42 rfl rfl (ways_within _ _ _ _) <| sr 2 rfl <| sg 4 4 13 17 false rfl rfl (fun hg5 => sy hg5 <| sf fo_25_1 rfl <| sy hg5 <| sl S 0 one_22 rfl rfl rfl <| sy hg5 <| sL sl_22 rfl <| sy hg5 <| sr 1 rfl <| sz 4 rfl rfl rfl) <| so rfl rfl rfl <| sE ?_;clear H a;intro a H
 refine k3 _ ?_;clear k3 K3
 refine cond_ H rfl (fun hc1 => ?_) (fun hc1 => ?_)
 ·skip
  try simp only [o1,o2,o3,o4,o5,o6,o7,o8,o9,oa] at hc1
  replace H := H.keep [] rfl
  refine sS H fun K4 k4=>sr 1 rfl <| sE ?_;clear H a;intro a H
  refine k4 _ ?_;clear k4 K4
  refine wp_ret ?_
  refine ret1 (fn := Try.f40) rfl H rfl ?_
  exact ⟨congrArg _ (st_size (by omega)).symm, (S.sel [] rfl rfl)⟩
 try simp only [o1,o2,o3,o4,o5,o6,o7,o8,o9,oa] at hc1
 refine wp_skip ?_
 refine k2 _ _ ?_
 refine seq_list fun K5 k5 => ?_
 refine list_makeMap (fun n : Int => .int .i64 n) H rfl S ?_;clear H a S;intro b19 _ a hb19 S H
 refine ls 1 H <| sr 1 rfl <| sE ?_;clear H a;intro a H
 refine k5 _ _ ?_;clear k5 K5
 refine wp_seq_k fun K6 k6 => ?_
 refine sS H fun K7 k7=>sf fo_25_1 rfl <| sl S 1 one_22 rfl rfl rfl <| sL sl_22 rfl <| sr 1 rfl <| sE ?_;clear H a;intro a H
 refine k7 _ ?_;clear k7 K7
 refine wp_block ?_
 refine loop_st (X := Nat × List (Int × Value)) (R0 := _) [1, 3, 21, 22] H rfl (fun ⟨k, l⟩ => [(23, .int .i64 (k : Int))]) (fun ⟨k, l⟩ => [mapM (fun n : Int => .int .i64 n) b19 l]) (fun g ⟨k, l⟩ => k ≤ ps.length ∧ g + k = ps.length ∧ allN (pasOk pl ps) k = true ∧ CntMap ps k l) (ps.length) (0, []) ?_ (S.sel [0, 1] rfl rfl) (H.keep [23, 1, 3, 21, 22] rfl) ?_
 · exact ⟨by omega, by omega, rfl, CntMap.nil ps⟩
 clear H S a
 intro g1 x1 a w1 hp S H K8 k8
 obtain ⟨k, l⟩ := x1
 dsimp only at hp S H
 obtain ⟨hkl, hgk, hA, hM⟩ := hp
 refine sS H fun K9 k9=>sr 1 rfl <| sE ?_;clear H a;intro a H
 refine k9 _ ?_;clear k9 K9
 refine wp_seq_k fun K10 k10 => ?_
 refine condL H rfl (fun hc2 => ?_) (fun hc2 => ?_)
 ·skip
  refine wp_skip ?_
  refine k10 _ _ ?_
  refine wp_seq_k fun K11 k11 => ?_
  refine wp_block ?_
  refine seq_list fun K12 k12 => ?_
  refine ls 2 H <| si sl_22 sz_128 rfl rfl (hps.adr (by omega)) (by omega) <| sd ((does_loadIn agg_128 sz_128 rfl S hps (by omega) (by omega))) <| sE ?_;clear H a;intro a H
  refine list_alloc H rfl S ze_128 ?_;clear H a S;intro b5 _ a hb5 hbw5 S H
  refine list_store H S (i := 0) rfl rfl rfl rfl sz_128 rfl rfl ?_
  clear H a S;intro _ a S H
  refine k12 _ _ ?_;clear k12 K12
  refine wp_seq_k fun K13 k13 => ?_
  replace H := H.keep [1, 3, 5, 21, 22, 23] rfl
  refine seq_list fun K14 k14 => ?_
  refine ls 3 H <| sd ((does_loadBox agg_128 sz_128 rfl S (i := 0) rfl rfl)) <| sf fo_25_0 rfl <| sl S 2 one_3 rfl rfl rfl <| sE ?_;clear H a;intro a H
  refine list_call H rfl rfl Try.func65 rfl rfl (ways_passage _ _ _ _ _ _ _ pl _ (by omega)) ?_;clear H a
  rintro _ _ a ⟨rfl, S2⟩ H
  replace S := S.call S2;clear S2
  refine ls 1 H <| sr 1 rfl <| sE ?_;clear H a;intro a H
  refine k14 _ _ ?_;clear k14 K14
  refine cond_ H rfl (fun hc3 => ?_) (fun hc3 => ?_)
  ·skip
   try simp only [o1,o2,o3,o4,o5,o6,o7,o8,o9,oa] at hc3
   refine sS H fun K15 k15=>sr 1 rfl <| sE ?_;clear H a;intro a H
   refine k15 _ ?_;clear k15 K15
   refine wp_ret ?_
   refine ret1 (fn := Try.f40) rfl H rfl ?_
   exact ⟨congrArg _ (st_pas (k := k) (by omega) (by unfold pasOk; rw [hc3]; rfl)).symm, (S.sel [] rfl rfl)⟩
  try simp only [o1,o2,o3,o4,o5,o6,o7,o8,o9,oa] at hc3
  refine wp_skip ?_
  refine k13 _ _ ?_
  have hcn := cntM_le (ps := ps) (m := machAt ps k) k; have hc0 := cntM_nn (ps := ps) (m := machAt ps k) (k := k); have hcs : cntM ps (machAt ps k) (k + 1) = cntM ps (machAt ps k) k + 1 := by unfold cntM; rw [sm, if_pos rfl]
  replace H := H.keep [1, 3, 5, 21, 22, 23] rfl
  refine seq_list fun K16 k16 => ?_
  refine ls 5 H <| sr 1 rfl <| sf fo_128_5 rfl <| sl S 0 one_3 rfl rfl rfl <| sd ((does_lookup (k := machAt ps k) S (i := 1) rfl mt_126 (keyOk_int Try.underlying3) zv_3 rfl rfl).to (hM _)) <| sd (does_add rfl rfl (by unfold i64ok; omega)) <| sE ?_;clear H a;intro a H
  refine list_mapUpdate (k := machAt ps k) H S (i := 1) rfl mt_126 (keyOk_int Try.underlying3) rfl rfl rfl ?_;clear H a S;intro _ a S H
  refine k16 _ _ ?_;clear k16 K16
  replace H := H.keep [1, 3, 5, 21, 22, 23] rfl
  refine seq_list fun K17 k17 => ?_
  refine ls 4 H <| sf fo_128_5 rfl <| sl S 0 one_3 rfl rfl rfl <| sr 2 rfl <| sE ?_;clear H a;intro a H
  apply list_guard (i := 3) (g := 40) (t := 45) (b := true) 5 H S rfl rfl (by kernel_rfl) (by kernel_rfl) rfl rfl
  case h1 =>
   intro hg4
   refine ls 5 H <| sy hg4 <| sr 1 rfl <| sy hg4 <| sf fo_128_5 rfl <| sy hg4 <| sl S 0 one_3 rfl rfl rfl <| sy hg4 <| sd ((does_lookup (k := machAt ps k) S (i := 1) rfl mt_126 (keyOk_int Try.underlying3) zv_3 rfl rfl).to (hM.step _)) <| sy hg4 <| sr 1 rfl <| sE ?_;intro a H
   exact wpList_nil ⟨H.strip 5 rfl rfl, (S.sel [0, 1, 2] rfl rfl)⟩
  clear H a S;intro a _ H S
  refine ls 1 H <| sa rfl rfl rfl <| sE ?_;clear H a;intro a H
  refine k17 _ _ ?_;clear k17 K17
  refine cond_ H rfl (fun hc4 => ?_) (fun hc4 => ?_)
  ·skip
   try simp only [o1,o2,o3,o4,o5,o6,o7,o8,o9,oa] at hc4
   replace H := H.keep [] rfl
   refine sS H fun K18 k18=>sr 1 rfl <| sE ?_;clear H a;intro a H
   refine k18 _ ?_;clear k18 K18
   refine wp_ret ?_
   refine ret1 (fn := Try.f40) rfl H rfl ?_
   exact ⟨congrArg _ (st_pas (k := k) (by omega) (by unfold pasOk; rw [decide_eq_false (by unfold machAt at *; omega), Bool.and_false])).symm, (S.sel [] rfl rfl)⟩
  try simp only [o1,o2,o3,o4,o5,o6,o7,o8,o9,oa] at hc4
  refine wp_skip ?_
  refine k11 _ _ ?_
  refine sO H <| sd (does_add rfl rfl (by unfold i64ok; omega)) <| sr 1 rfl <| sE ?_;clear H a;intro a H
  exact k8 (g1 - 1) (k + 1, _) a _ (by omega) (⟨by omega, by omega, allN_step hA (by unfold pasOk; rw [Bool.and_eq_true]; refine ⟨hc3, decide_eq_true ?_⟩; unfold machAt at *; omega), hM.step⟩) (S.sel [1, 2] rfl rfl) (H.keep [23, 1, 3, 21, 22] rfl)
 refine wp_exit ?_
 refine k6 _ _ ?_
 refine sS H fun K20 k20=>sr 1 rfl <| sE ?_;clear H a;intro a H
 refine k20 _ ?_;clear k20 K20
 refine wp_seq_k fun K21 k21 => ?_
 refine sS H fun K22 k22=>sf fo_25_2 rfl <| sl S 1 one_23 rfl rfl rfl <| sL sl_23 rfl <| sr 1 rfl <| sE ?_;clear H a;intro a H
 refine k22 _ ?_;clear k22 K22
 refine wp_block ?_
 refine loop_st (X := Nat) (R0 := _) [1, 49, 50] H rfl (fun k2 => [(6, .int .i64 (if k2 = 0 then -1 else xs.getD (k2 - 1) 0)), (51, .int .i64 (k2 : Int))]) (fun k2 => []) (fun g k2 => k2 ≤ xs.length ∧ g + k2 = xs.length ∧ allN (exOk pl xs) k2 = true) (xs.length) 0 ?_ (S.sel [0, 1] rfl rfl) (H.keep [6, 51, 1, 49, 50] rfl) ?_
 · exact ⟨by omega, by omega, rfl⟩
 clear H S a
 intro g2 x2 a w2 hp S H K23 k23
 obtain ⟨k2, rfl⟩ : ∃ y, y = x2 := ⟨_, rfl⟩
 have hxb : k2 ≠ 0 → 0 ≤ xs.getD (k2 - 1) 0 ∧ xs.getD (k2 - 1) 0 < pl := fun h0 => by
   have := allN_iff.1 hp.2.2 (k2 - 1) (by omega)
   unfold exOk at this
   simp only [decide_eq_true_eq] at this
   omega
 refine sS H fun K24 k24=>sr 1 rfl <| sE ?_;clear H a;intro a H
 refine k24 _ ?_;clear k24 K24
 refine wp_seq_k fun K25 k25 => ?_
 refine condL H rfl (fun hc5 => ?_) (fun hc5 => ?_)
 ·skip
  refine wp_skip ?_
  refine k25 _ _ ?_
  refine wp_seq_k fun K26 k26 => ?_
  refine wp_block ?_
  refine sS H fun K27 k27=>si sl_23 sz_3 rfl rfl (hxs.adr (by omega)) (by omega) <| slm one_3 rfl (hxs.rd S (by omega) (by omega)) <| sr 1 rfl <| sE ?_;clear H a;intro a H
  refine k27 _ ?_;clear k27 K27
  refine wp_seq_k fun K28 k28 => ?_
  replace H := H.keep [1, 6, 8, 49, 50, 51] rfl
  refine sS H fun K29 k29=>sr 2 rfl <| sd (does_add rfl rfl (by unfold i64ok; omega)) <| sf fo_25_0 rfl <| sl S 1 one_3 rfl rfl rfl <| sd (does_sub rfl rfl (by unfold i64ok; omega)) <| sc rfl Try.func42 rfl rfl (ways_within _ _ _ _) <| sr 1 rfl <| sE ?_;clear H a;intro a H
  refine k29 _ ?_;clear k29 K29
  refine cond_ H rfl (fun hc6 => ?_) (fun hc6 => ?_)
  ·skip
   try simp only [o1,o2,o3,o4,o5,o6,o7,o8,o9,oa] at hc6
   refine sS H fun K30 k30=>sr 1 rfl <| sE ?_;clear H a;intro a H
   refine k30 _ ?_;clear k30 K30
   refine wp_ret ?_
   refine ret1 (fn := Try.f40) rfl H rfl ?_
   exact ⟨congrArg _ (st_ex (k := k2) (by omega) (by unfold exOk; rw [decide_eq_false_iff_not]; rcases Nat.eq_zero_or_pos k2 with h0 | h0 <;> first | (rw [if_pos h0] at hc6; omega) | (rw [if_neg (Nat.ne_of_gt h0)] at hc6; omega))).symm, (S.sel [] rfl rfl)⟩
  try simp only [o1,o2,o3,o4,o5,o6,o7,o8,o9,oa] at hc6
  refine wp_skip ?_
  refine k28 _ _ ?_
  replace H := H.keep [1, 8, 49, 50, 51] rfl
  refine sO H <| sr 2 rfl <| sE ?_;clear H a;intro a H
  refine k26 _ _ ?_
  refine sO H <| sd (does_add rfl rfl (by unfold i64ok; omega)) <| sr 1 rfl <| sE ?_;clear H a;intro a H
  exact k23 (g2 - 1) (k2 + 1) a _ (by omega) (⟨by omega, by omega, allN_step hp.2.2 (by unfold exOk; rw [decide_eq_true_eq]; rcases Nat.eq_zero_or_pos k2 with h0 | h0 <;> first | (rw [if_pos h0] at hc6; omega) | (rw [if_neg (Nat.ne_of_gt h0)] at hc6; omega))⟩) (S.sel [0, 1] rfl rfl) (H.keep [6, 51, 1, 49, 50] rfl)
 refine wp_exit ?_
 refine k21 _ _ ?_
 refine sS H fun K33 k33=>sr 1 rfl <| sE ?_;clear H a;intro a H
 refine k33 _ ?_;clear k33 K33
 refine wp_ret ?_
 refine ret1 (fn := Try.f40) rfl H rfl ?_
 have hk9 : k = ps.length := by omega
 have hk8 : k2 = xs.length := by omega
 exact ⟨congrArg _ (st_ok (by omega) (hk9 ▸ hA) (hk8 ▸ hp.2.2)).symm, (S.sel [] rfl rfl)⟩

theorem ways_crowd (pl : Int) (ps : List Psg) (PA : Option Addr) (pc : Nat) (xs : List Int) (XA : Option Addr) (xc : Nat) (pe : List Int) (BA : Option Addr) (bc : Nat) (w : World) (hpe : InS w noF 1 BA pe.length (icl pe)) (hpen : pe.length ≤ 9223372036854775807) :
    Calls Try.prog 66 [.agg [.int .i64 pl, .slice PA ps.length pc, .slice XA xs.length xc].toArray, .slice BA pe.length bc].toArray w (Ret (fun v w' => v = .bool (crowdOk pl pe) ∧ St w noF [] w')) := by
 refine enter Try.func66 rfl Try.ntmps66 rfl (fun a H => ?_)
 have S := St.start w
 refine seq_list fun K1 k1 => ?_
 refine list_box H rfl S rfl rfl ?_;clear H a S;intro b2 _ a hb2 hbw2 S H
 refine ls 1 H <| sr 1 rfl <| sE ?_;clear H a;intro a H
 refine k1 _ _ ?_;clear k1 K1
 refine wp_seq_k fun K2 k2 => ?_
 refine sS H fun K3 k3=>sr 1 rfl <| sL sl_23 rfl <| sr 1 rfl <| sE ?_;clear H a;intro a H
 refine k3 _ ?_;clear k3 K3
 refine wp_block ?_
 refine loop_st (X := Nat) (R0 := _) [1, 2, 7, 8] H rfl (fun k => [(9, .int .i64 (k : Int))]) (fun k => []) (fun g k => k ≤ pe.length ∧ g + k = pe.length ∧ allN (fun k => decide (0 ≤ pe.getD k 0 ∧ pe.getD k 0 ≤ 1000)) k = true) (pe.length) 0 ?_ (S.sel [0] rfl rfl) (H.keep [9, 1, 2, 7, 8] rfl) ?_
 · exact ⟨by omega, by omega, rfl⟩
 clear H S a
 intro g1 x1 a w1 hp S H K4 k4
 obtain ⟨k, rfl⟩ : ∃ y, y = x1 := ⟨_, rfl⟩
 refine sS H fun K5 k5=>sr 1 rfl <| sE ?_;clear H a;intro a H
 refine k5 _ ?_;clear k5 K5
 refine wp_seq_k fun K6 k6 => ?_
 refine condL H rfl (fun hc1 => ?_) (fun hc1 => ?_)
 ·skip
  refine wp_skip ?_
  refine k6 _ _ ?_
  refine wp_seq_k fun K7 k7 => ?_
  refine wp_block ?_
  refine sS H fun K8 k8=>si sl_23 sz_3 rfl rfl (hpe.adr (by omega)) (by omega) <| slm one_3 rfl (hpe.rd S (by omega) (by omega)) <| sr 1 rfl <| sE ?_;clear H a;intro a H
  refine k8 _ ?_;clear k8 K8
  refine sS H fun K9 k9=>sr 1 rfl <| sc rfl Try.func42 rfl rfl (ways_within _ _ _ _) <| sr 1 rfl <| sE ?_;clear H a;intro a H
  refine k9 _ ?_;clear k9 K9
  refine cond_ H rfl (fun hc2 => ?_) (fun hc2 => ?_)
  ·skip
   try simp only [o1,o2,o3,o4,o5,o6,o7,o8,o9,oa] at hc2
   refine sS H fun K10 k10=>sr 1 rfl <| sE ?_;clear H a;intro a H
   refine k10 _ ?_;clear k10 K10
   refine wp_ret ?_
   refine ret1 (fn := Try.f66) rfl H rfl ?_
   refine ⟨congrArg Value.bool ?_, (S.sel [] rfl rfl)⟩; unfold crowdOk; rw [allN_false (k := k) (by omega) (by rw [decide_eq_false_iff_not]; omega)]; rfl
  try simp only [o1,o2,o3,o4,o5,o6,o7,o8,o9,oa] at hc2
  refine wp_skip ?_
  refine k7 _ _ ?_
  replace H := H.keep [1, 2, 7, 8, 9] rfl
  refine sO H <| sd (does_add rfl rfl (by unfold i64ok; omega)) <| sr 1 rfl <| sE ?_;clear H a;intro a H
  exact k4 (g1 - 1) (k + 1) a _ (by omega) (⟨by omega, by omega, allN_step hp.2.2 (by rw [decide_eq_true_eq]; omega)⟩) (S.sel [0] rfl rfl) (H.keep [9, 1, 2, 7, 8] rfl)
 refine wp_exit ?_
 refine k2 _ _ ?_
 refine sS H fun K12 k12=>sr 1 rfl <| sL sl_23 rfl <| sf fo_25_0 rfl <| sl S 0 one_3 rfl rfl rfl <| sr 2 rfl <| sE ?_;clear H a;intro a H
 refine k12 _ ?_;clear k12 K12
 refine wp_ret ?_
 refine ret1 (fn := Try.f66) rfl H rfl ?_
 refine ⟨congrArg Value.bool ?_, (S.sel [] rfl rfl)⟩; unfold crowdOk; rw [show pe.length = k by omega, hp.2.2, Bool.true_and]

theorem ways_leaving (pl : Int) (ps : List Psg) (PA : Option Addr) (pc : Nat) (xs : List Int) (XA : Option Addr) (xc : Nat) (out : Int) (pe : List Int) (BA : Option Addr) (bc : Nat) (T : Int) (w : World) (hps : InS w noF 7 PA ps.length (pcell ps)) (hpn : ps.length ≤ 9223372036854775807) (hxs : InS w noF 1 XA xs.length (icl xs)) (hxn : xs.length ≤ 9223372036854775807) (hpe : InS w noF 1 BA pe.length (icl pe)) (hpen : pe.length ≤ 9223372036854775807) :
    Calls Try.prog 101 [.agg [.int .i64 pl, .slice PA ps.length pc, .slice XA xs.length xc].toArray, .int .i64 out, .slice BA pe.length bc, .int .i64 T].toArray w (Ret (fun v w' => v = .int .i64 (leaveE pl ps xs out pe T) ∧ St w noF [] w')) := by
 refine enter Try.func101 rfl Try.ntmps101 rfl (fun a H => ?_)
 have S := St.start w
 refine seq_list fun K1 k1 => ?_
 refine list_box H rfl S rfl rfl ?_;clear H a S;intro b4 _ a hb4 hbw4 S H
 refine ls 1 H <| sr 1 rfl <| sE ?_;clear H a;intro a H
 refine k1 _ _ ?_;clear k1 K1
 refine wp_seq_k fun K2 k2 => ?_
 refine seq_list fun K3 k3 => ?_
 refine ls 1 H <| sd ((does_loadBox agg_25 sz_25 rfl S (i := 0) rfl rfl)) <| sE ?_;clear H a;intro a H
 refine list_call H rfl rfl Try.func40 rfl rfl (ways_Check pl ps PA pc xs XA xc _ (hps.now S) hpn (hxs.now S) hxn) ?_;clear H a
 rintro _ _ a ⟨rfl, S2⟩ H
 replace S := S.call S2;clear S2
 refine ls 1 H <| sr 1 rfl <| sE ?_;clear H a;intro a H
 refine k3 _ _ ?_;clear k3 K3
 refine sS H fun K4 k4=>sr 2 rfl <| sE ?_;clear H a;intro a H
 refine k4 _ ?_;clear k4 K4
 refine condN H rfl (fun hc1 => ?_) (fun hc1 => ?_)
 ·skip
  refine sS H fun K5 k5=>sr 2 rfl <| sE ?_;clear H a;intro a H
  refine k5 _ ?_;clear k5 K5
  refine wp_ret ?_
  refine ret1 (fn := Try.f101) rfl H rfl ?_
  refine ⟨?_, (S.sel [] rfl rfl)⟩; unfold leaveE; rw [if_pos hc1]
 refine wp_skip ?_
 refine k2 _ _ ?_
 refine wp_seq_k fun K6 k6 => ?_
 replace H := H.keep [1, 2, 3, 4] rfl
 refine seq_list fun K7 k7 => ?_
 refine ls 1 H <| sr 1 rfl <| sE ?_;clear H a;intro a H
 refine list_call H rfl rfl Try.func42 rfl rfl (ways_within _ _ _ _) ?_;clear H a
 rintro _ _ a ⟨rfl, rfl⟩ H
 refine ls 2 H <| sr 2 rfl <| sE ?_;clear H a;intro a H
 apply list_guard (i := 3) (g := 18) (t := 22) (b := false) 4 H S rfl rfl (by kernel_rfl) (by kernel_rfl) rfl rfl
 case h1 =>
  intro hg4
  refine ls 2 H <| sy hg4 <| sd ((does_loadBox agg_25 sz_25 rfl S (i := 0) rfl rfl)) <| sy hg4 <| sr 1 rfl <| sE ?_;intro a H
  refine list_yes' H rfl rfl (by assumption) ?_
  refine list_call H rfl rfl Try.func66 rfl rfl (ways_crowd pl ps PA pc xs XA xc pe BA bc _ (hpe.now S) hpen) ?_
  rintro _ _ a ⟨rfl, S2⟩ H
  replace S := S.call S2;clear S2
  refine ls 1 H <| sy hg4 <| sr 1 rfl <| sE ?_;intro a H
  exact wpList_nil ⟨H.strip 4 rfl rfl, (S.sel [0] rfl rfl)⟩
 clear H a S;intro a _ H S
 refine ls 6 H <| so rfl rfl rfl <| sr 1 rfl <| sg 3 9 24 27 false rfl rfl (fun hg10 => sy hg10 <| sr 1 rfl <| sy hg10 <| sc rfl Try.func42 rfl rfl (ways_within _ _ _ _) <| sy hg10 <| sr 1 rfl <| sz 3 rfl rfl rfl) <| so rfl rfl rfl <| sE ?_;clear H a;intro a H
 refine k7 _ _ ?_;clear k7 K7
 refine cond_ H rfl (fun hc2 => ?_) (fun hc2 => ?_)
 ·skip
  try simp only [o1,o2,o3,o4,o5,o6,o7,o8,o9,oa] at hc2
  replace H := H.keep [] rfl
  refine sS H fun K8 k8=>sr 1 rfl <| sE ?_;clear H a;intro a H
  refine k8 _ ?_;clear k8 K8
  refine wp_ret ?_
  refine ret1 (fn := Try.f101) rfl H rfl ?_
  refine ⟨?_, (S.sel [] rfl rfl)⟩; unfold leaveE; rw [if_neg (by omega), if_neg (by simp only [Bool.and_eq_true, decide_eq_true_eq]; rcases hc2 with (h | h) | h <;> first | (intro h9; omega) | (rw [h]; simp))]
 try simp only [o1,o2,o3,o4,o5,o6,o7,o8,o9,oa] at hc2
 refine wp_skip ?_
 refine k6 _ _ ?_
 refine sS H fun K9 k9=>sr 1 rfl <| sE ?_;clear H a;intro a H
 refine k9 _ ?_;clear k9 K9
 refine wp_ret ?_
 refine ret1 (fn := Try.f101) rfl H rfl ?_
 refine ⟨?_, (S.sel [] rfl rfl)⟩; unfold leaveE; rw [if_neg (by omega), if_pos (by simp only [Bool.and_eq_true, decide_eq_true_eq]; exact ⟨⟨by omega, hc2.1.2⟩, by omega⟩)]

end Go.Proofs.Ytopmadlgolnmfaa
