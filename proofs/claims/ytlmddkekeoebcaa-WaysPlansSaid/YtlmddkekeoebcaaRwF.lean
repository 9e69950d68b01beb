/- RwF. Printed by gen.py. -/
import Derived.Test.YtlmddkekeoebcaaRwB
import Derived.Test.YtlmddkekeoebcaaWyK
import Derived.Test.YtlmddkekeoebcaaE2
namespace Go.Proofs.Ytlmddkekeoebcaa
open Go.RowKit
set_option linter.unusedVariables false
set_option linter.unusedSimpArgs false
set_option maxRecDepth 100000
set_option maxHeartbeats 4000000


theorem tt_no {A : Prop} (h : (true = false ∨ true = false) ∨ ¬ A) : ¬ A := by
  rcases h with (h | h) | h
  · cases h
  · cases h
  · exact h
theorem kc4 (a b n : Int) (p : Bool) : ¬ a ≤ n ∨ (a ≤ n ∧ ¬ n ≤ b) ∨ (a ≤ n ∧ n ≤ b ∧ p = false) ∨ (a ≤ n ∧ n ≤ b ∧ p = true) := by
  by_cases h1 : a ≤ n
  · by_cases h2 : n ≤ b
    · cases p
      · exact .inr (.inr (.inl ⟨h1, h2, rfl⟩))
      · exact .inr (.inr (.inr ⟨h1, h2, rfl⟩))
    · exact .inr (.inl ⟨h1, h2⟩)
  · exact .inl h1
theorem hrag_add {w w0 : World} {F0 : Nat → Prop} {R : List Mem} {k c' : Nat} {day : List Hq} {DA : Nat → Option Addr} {dc : Nat → Nat} {A' : Option Addr}
    (S : St w0 F0 (ownM 3 1 A' (day.getD k Hq.zero).pe.length c' (icl (day.getD k Hq.zero).pe) :: ragM 3 1 (fun q => q < k) DA (fun q => (day.getD q Hq.zero).pe.length) dc (fun q => icl (day.getD q Hq.zero).pe) :: R) w) :
    St w0 F0 (ragM 3 1 (fun q => q < k + 1) (upd DA k A') (fun q => (day.getD q Hq.zero).pe.length) (upd dc k c') (fun q => icl (day.getD q Hq.zero).pe) :: R) w := by
  have S2 := ragM.add (i := 0) S rfl
  refine ragM.recell (i := 0) S2 rfl fun q hq => ⟨rfl, ?_, rfl, ?_⟩
  · by_cases e : q = k
    · subst e; exact upd_same _ _ _
    · exact upd_ne _ _ e
  · by_cases e : q = k
    · subst e; exact upd_same _ _ _
    · exact upd_ne _ _ e
theorem hout_add {k : Nat} {day : List Hq} {DA : Nat → Option Addr} {dc : Nat → Nat} {A' : Option Addr} {c' : Nat} {v0 v1 v2 : Value} (h0 : v0 = .int .i64 (day.getD k Hq.zero).out) (h1 : v1 = .bool (day.getD k Hq.zero).help) (h2 : v2 = .slice A' (day.getD k Hq.zero).pe.length c') :
    ∀ q j, q < k + 1 → j < 3 → capp k (hcl day DA dc) (fun q' j => ([[v0, v1, v2]].getD q' []).getD j undef) q j = hcl day (upd DA k A') (upd dc k c') q j := by
  subst h0; subst h1; subst h2
  intro q j hq hj
  unfold capp
  by_cases h : q < k
  · rw [if_pos h]
    unfold hcl
    match j, hj with
    | 0, _ => rfl
    | 1, _ => rfl
    | 2, _ => rw [upd_ne _ _ (by omega), upd_ne _ _ (by omega)]
  · have e : q = k := by omega
    subst e
    rw [if_neg h, Nat.sub_self]
    match j, hj with
    | 0, _ => rfl
    | 1, _ => rfl
    | 2, _ => unfold hcl; dsimp only; rw [upd_same, upd_same]; rfl
theorem three {p : Nat → Prop} (h0 : p 0) (h1 : p 1) (h2 : p 2) : ∀ j, j < 3 → p j := by
  intro j hj
  match j, hj with
  | 0, _ => exact h0
  | 1, _ => exact h1
  | 2, _ => exact h2


theorem ref_isPeople (pl : Int) (ps : List Psg) (PA : Option Addr) (pc : Nat) (xs : List Int) (XA : Option Addr) (xc : Nat) (pe : List Int) (BA : Option Addr) (bc : Nat) (w : World) (hpe : InS w noF 1 BA pe.length (icl pe)) (hpen : pe.length ≤ 9223372036854775807) :
    Calls Try.prog 64 [.agg [.int .i64 pl, .slice PA ps.length pc, .slice XA xs.length xc].toArray, .slice BA pe.length bc].toArray w (Ret (fun v w' => v = .bool (crowdOk pl pe) ∧ St w noF [] w')) := by
 refine enter Try.func64 rfl Try.ntmps64 rfl (fun a H => ?_)
 have S := St.start w
 refine seq_list fun K1 k1 => ?_
 refine list_box H rfl S rfl rfl ?_;clear H a S;intro b2 _ a hb2 hbw2 S H
 refine ls 1 H <| sr 1 rfl <| sE ?_;clear H a;intro a H
 refine k1 _ _ ?_;clear k1 K1
 refine wp_seq_k fun K2 k2 => ?_
 refine sS H fun K3 k3=>sr 1 rfl <| sE ?_;clear H a;intro a H
 refine k3 _ ?_;clear k3 K3
 refine wp_block ?_
 refine loop_st (X := Nat) (R0 := _) [1, 2] H rfl (fun k => [(5, .int .i64 (k : Int))]) (fun k => []) (fun g k => k ≤ pe.length ∧ g + k = pe.length ∧ allN (fun k => decide (0 ≤ pe.getD k 0 ∧ pe.getD k 0 ≤ 1000)) k = true) (pe.length) 0 ?_ (S.sel [0] rfl rfl) (H.keep [5, 1, 2] rfl) ?_
 · exact ⟨by omega, by omega, rfl⟩
 clear H S a
 intro g1 x1 a w1 hp S H K4 k4
 obtain ⟨k, rfl⟩ : ∃ y, y = x1 := ⟨_, rfl⟩
 refine wp_seq_k fun K5 k5 => ?_
 refine sS H fun K6 k6=>sr 2 rfl <| sL sl_23 rfl <| sr 1 rfl <| sE ?_;clear H a;intro a H
 refine k6 _ ?_;clear k6 K6
 refine condL H rfl (fun hc1 => ?_) (fun hc1 => ?_)
 ·skip
  refine wp_skip ?_
  refine k5 _ _ ?_
  refine wp_seq_k fun K7 k7 => ?_
  refine wp_block ?_
  replace H := H.keep [1, 2, 5] rfl
  refine sS H fun K8 k8=>sr 2 rfl <| si sl_23 sz_3 rfl rfl (hpe.adr (by omega)) (by omega) <| slm one_3 rfl (hpe.rd S (by omega) (by omega)) <| sc rfl Try.func56 rfl rfl (ref_from _ _ _ _) <| sr 1 rfl <| sE ?_;clear H a;intro a H
  refine k8 _ ?_;clear k8 K8
  refine cond_ H rfl (fun hc2 => ?_) (fun hc2 => ?_)
  ·skip
   try simp only [o1,o2,o3,o4,o5,o6,o7,o8,o9,oa] at hc2
   refine sS H fun K9 k9=>sr 1 rfl <| sE ?_;clear H a;intro a H
   refine k9 _ ?_;clear k9 K9
   refine wp_ret ?_
   refine ret1 (fn := Try.f64) rfl H rfl ?_
   refine ⟨congrArg Value.bool ?_, (S.sel [] rfl rfl)⟩; unfold crowdOk; rw [allN_false (k := k) (by omega) (by rw [decide_eq_false_iff_not]; omega)]; rfl
  try simp only [o1,o2,o3,o4,o5,o6,o7,o8,o9,oa] at hc2
  refine wp_skip ?_
  refine k7 _ _ ?_
  replace H := H.keep [1, 2, 5] rfl
  refine sO H <| sr 1 rfl <| sd (does_add rfl rfl (by unfold i64ok; omega)) <| sr 1 rfl <| sE ?_;clear H a;intro a H
  exact k4 (g1 - 1) (k + 1) a _ (by omega) (⟨by omega, by omega, allN_step hp.2.2 (by rw [decide_eq_true_eq]; omega)⟩) (S.sel [0] rfl rfl) (H.keep [5, 1, 2] rfl)
 refine wp_exit ?_
 refine k2 _ _ ?_
 refine sS H fun K11 k11=>sr 1 rfl <| sL sl_23 rfl <| sf fo_25_0 rfl <| sl S 0 one_3 rfl rfl rfl <| sr 2 rfl <| sE ?_;clear H a;intro a H
 refine k11 _ ?_;clear k11 K11
 refine wp_ret ?_
 refine ret1 (fn := Try.f64) rfl H rfl ?_
 refine ⟨congrArg Value.bool ?_, (S.sel [] rfl rfl)⟩; unfold crowdOk; rw [show pe.length = k by omega, hp.2.2, Bool.true_and]

theorem ref_CheckDay (pl : Int) (ps : List Psg) (PA : Option Addr) (pc : Nat) (xs : List Int) (XA : Option Addr) (xc : Nat) (day : List Hq) (HA : Option Addr) (hcp : Nat) (DA : Nat → Option Addr) (dc : Nat → Nat) (w : World) (hps : InS w noF 7 PA ps.length (pcell ps)) (hpn : ps.length ≤ 9223372036854775807) (hxs : InS w noF 1 XA xs.length (icl xs)) (hxn : xs.length ≤ 9223372036854775807) (hday : InS w noF 3 HA day.length (hcl day DA dc)) (hdn : day.length ≤ 9223372036854775807) (hdp : ∀ k, k < day.length → InS w noF 1 (DA k) (day.getD k Hq.zero).pe.length (icl (day.getD k Hq.zero).pe)) (hdl : ∀ k, k < day.length → (day.getD k Hq.zero).pe.length ≤ 9223372036854775807) :
    Calls Try.prog 81 [.agg [.int .i64 pl, .slice PA ps.length pc, .slice XA xs.length xc].toArray, .slice HA day.length hcp].toArray w (Ret (fun v w' => v = .int .i64 (dayE pl ps xs day) ∧ St w noF [] w')) := by
 refine enter Try.func81 rfl Try.ntmps81 rfl (fun a H => ?_)
 have S := St.start w
 refine seq_list fun K1 k1 => ?_
 refine list_box H rfl S rfl rfl ?_;clear H a S;intro b2 _ a hb2 hbw2 S H
 refine ls 1 H <| sr 1 rfl <| sE ?_;clear H a;intro a H
 refine k1 _ _ ?_;clear k1 K1
 refine seq_list fun K2 k2 => ?_
 refine ls 1 H <| sd ((does_loadBox agg_25 sz_25 rfl S (i := 0) rfl rfl)) <| sE ?_;clear H a;intro a H
 refine list_call H rfl rfl Try.func20 rfl rfl (ref_Check pl ps PA pc xs XA xc _ (hps.now S) hpn (hxs.now S) hxn) ?_;clear H a
 rintro _ _ a ⟨rfl, S2⟩ H
 replace S := S.call S2;clear S2
 refine ls 1 H <| sr 1 rfl <| sE ?_;clear H a;intro a H
 refine k2 _ _ ?_;clear k2 K2
 refine wp_seq_k fun K3 k3 => ?_
 refine sS H fun K4 k4=>sr 2 rfl <| sE ?_;clear H a;intro a H
 refine k4 _ ?_;clear k4 K4
 refine condN H rfl (fun hc1 => ?_) (fun hc1 => ?_)
 ·skip
  refine sS H fun K5 k5=>sr 2 rfl <| sE ?_;clear H a;intro a H
  refine k5 _ ?_;clear k5 K5
  refine wp_ret ?_
  refine ret1 (fn := Try.f81) rfl H rfl ?_
  refine ⟨congrArg (Value.int .i64) ?_, (S.sel [] rfl rfl)⟩; unfold dayE; rw [if_pos hc1]
 have hst : stE pl ps xs = 0 := by omega
 refine wp_skip ?_
 refine k3 _ _ ?_
 refine wp_seq_k fun K6 k6 => ?_
 replace H := H.keep [1, 2] rfl
 refine sS H fun K7 k7=>sr 1 rfl <| sL sl_65 rfl <| sr 1 rfl <| sE ?_;clear H a;intro a H
 refine k7 _ ?_;clear k7 K7
 refine condL H rfl (fun hc2 => ?_) (fun hc2 => ?_)
 ·skip
  refine sS H fun K8 k8=>sr 1 rfl <| sE ?_;clear H a;intro a H
  refine k8 _ ?_;clear k8 K8
  refine wp_ret ?_
  refine ret1 (fn := Try.f81) rfl H rfl ?_
  refine ⟨congrArg (Value.int .i64) ?_, (S.sel [] rfl rfl)⟩; unfold dayE; rw [if_neg (by omega), if_neg]; unfold dayOk; rw [decide_eq_false (p := day.length ≤ 48) (by omega), Bool.and_false]; simp
 refine wp_skip ?_
 refine k6 _ _ ?_
 refine wp_seq_k fun K9 k9 => ?_
 refine sS H fun K10 k10=>sr 1 rfl <| sE ?_;clear H a;intro a H
 refine k10 _ ?_;clear k10 K10
 refine wp_block ?_
 refine loop_st (X := Nat) (R0 := _) [1, 2] H rfl (fun k => [(6, .int .i64 (k : Int))]) (fun k => []) (fun g k => k ≤ day.length ∧ g + k = day.length ∧ allN (fun k => hqOk pl (day.getD k Hq.zero)) k = true) (day.length) 0 ?_ (S.sel [0] rfl rfl) (H.keep [6, 1, 2] rfl) ?_
 · exact ⟨by omega, by omega, rfl⟩
 clear H S a
 intro g1 x1 a w1 hp S H K11 k11
 obtain ⟨k, rfl⟩ : ∃ y, y = x1 := ⟨_, rfl⟩
 refine wp_seq_k fun K12 k12 => ?_
 refine sS H fun K13 k13=>sr 2 rfl <| sL sl_65 rfl <| sr 1 rfl <| sE ?_;clear H a;intro a H
 refine k13 _ ?_;clear k13 K13
 refine condL H rfl (fun hc3 => ?_) (fun hc3 => ?_)
 ·skip
  refine wp_skip ?_
  refine k12 _ _ ?_
  refine wp_seq_k fun K14 k14 => ?_
  refine wp_block ?_
  by_cases hB : 0 ≤ (day.getD k Hq.zero).out ∧ (day.getD k Hq.zero).out ≤ 4095
  ·skip
   replace H := H.keep [1, 2, 6] rfl
   replace S := S.drew
   refine seq_wq [(0, true), (1, true), (2, true), (3, true), (4, true), (5, false), (6, true), (7, true), (8, true), (9, true), (10, true), (11, true), (12, true), (13, true), (14, false), (15, true), (16, true)] (by kernel_rfl) (by kernel_rfl) (S.sel [0] rfl rfl) fun K15 k15 => ?_
   refine qF H <| qr 2 rfl <| qd rfl (fun _ S => does_indexN sl_65 sz_74 rfl rfl (hday.adr (by omega)) (by omega)) <| qd rfl (fun _ S => (does_field_pt fo_74_0 rfl)) <| qd rfl (fun _ S => does_load one_3 rfl (hday.rd S (by omega) (by omega))) <| qK ?_;clear H a;intro a H
   refine wq_eff rfl ?_
   refine list_call H rfl rfl Try.func63 rfl rfl (ref_set _ _) ?_;clear H a
   rintro _ _ a ⟨rfl, rfl⟩ H
   rw [decide_eq_true hB.1, decide_eq_true hB.2, Bool.and_self] at H
   refine wpList_nil (And.intro (S.sel [0] rfl rfl) ?_)
   refine qF H <| qr 2 rfl <| qK ?_;clear H a;intro a H
   refine wq_yes H rfl rfl rfl rfl (fun _ S => (does_loadBox agg_25 sz_25 rfl S (i := 0) rfl rfl)) ?_;clear H a;intro a H
   refine wq_yes H rfl rfl rfl rfl (fun _ S => does_move rfl) ?_;clear H a;intro a H
   refine wq_yes H rfl rfl rfl rfl (fun _ S => does_move rfl) ?_;clear H a;intro a H
   refine wq_yes H rfl rfl rfl rfl (fun _ S => does_indexN sl_65 sz_74 rfl rfl (hday.adr (by omega)) (by omega)) ?_;clear H a;intro a H
   refine wq_yes H rfl rfl rfl rfl (fun _ S => (does_field_pt fo_74_2 rfl)) ?_;clear H a;intro a H
   refine wq_yes H rfl rfl rfl rfl (fun _ S => does_load one_23 rfl (hday.rd S (by omega) (by omega))) ?_;clear H a;intro a H
   refine wq_eff rfl ?_
   refine list_yes H rfl rfl ?_
   refine list_call H rfl rfl Try.func64 rfl rfl (ref_isPeople pl ps PA pc xs XA xc (day.getD k Hq.zero).pe (DA k) (dc k) _ ((hdp k (by omega)).now S) (hdl k (by omega))) ?_;clear H a
   rintro _ _ a ⟨rfl, S2⟩ H
   replace S := S.call S2;clear S2
   refine wpList_nil (And.intro (S.sel [0] rfl rfl) ?_)
   refine wq_yes H rfl rfl rfl rfl (fun _ S => does_not rfl) ?_;clear H a;intro a H
   refine qF H <| qd rfl (fun _ S => (does_or rfl rfl rfl)) <| qK ?_;clear H a;intro a H
   refine wq_nil ?_
   refine k15 _ _ ?_
   clear k15 K15
   refine cond_ H rfl (fun hc4 => ?_) (fun hc4 => ?_)
   ·skip
    try simp only [o1,o2,o3,o4,o5,o6,o7,o8,o9,oa] at hc4
    replace H := H.keep [] rfl
    refine sS H fun K16 k16=>sr 1 rfl <| sE ?_;clear H a;intro a H
    refine k16 _ ?_;clear k16 K16
    refine wp_ret ?_
    refine ret1 (fn := Try.f81) rfl H rfl ?_
    refine ⟨congrArg (Value.int .i64) ?_, (S.sel [] rfl rfl)⟩; unfold dayE; rw [if_neg (by omega), hqOk_not (k := k) (by omega) (by unfold hqOk; rw [hc4.resolve_left (by simp), Bool.and_false])]; rfl
   try simp only [o1,o2,o3,o4,o5,o6,o7,o8,o9,oa] at hc4
   refine wp_skip ?_
   refine k14 _ _ ?_
   refine sO H <| sr 1 rfl <| sd (does_add rfl rfl (by unfold i64ok; omega)) <| sr 1 rfl <| sE ?_;clear H a;intro a H
   exact k11 (g1 - 1) (k + 1) a _ (by omega) (⟨by omega, by omega, allN_step hp.2.2 (by unfold hqOk; rw [decide_eq_true hB, hc4.2]; rfl)⟩) (S.sel [0] rfl rfl) (H.keep [6, 1, 2] rfl)
  replace H := H.keep [1, 2, 6] rfl
  replace S := S.drew
  refine seq_wq [(0, true), (1, true), (2, true), (3, true), (4, true), (5, false), (6, true), (7, true), (8, true), (9, true), (10, true), (11, true), (12, true), (13, true), (14, true), (15, true), (16, true)] (by kernel_rfl) (by kernel_rfl) (S.sel [0] rfl rfl) fun K18 k18 => ?_
  refine qF H <| qr 2 rfl <| qd rfl (fun _ S => does_indexN sl_65 sz_74 rfl rfl (hday.adr (by omega)) (by omega)) <| qd rfl (fun _ S => (does_field_pt fo_74_0 rfl)) <| qd rfl (fun _ S => does_load one_3 rfl (hday.rd S (by omega) (by omega))) <| qK ?_;clear H a;intro a H
  refine wq_eff rfl ?_
  refine list_call H rfl rfl Try.func63 rfl rfl (ref_set _ _) ?_;clear H a
  rintro _ _ a ⟨rfl, rfl⟩ H
  rw [Bool.and_eq_false_iff.2 (by simp only [decide_eq_false_iff_not]; omega)] at H
  refine wpList_nil (And.intro (S.sel [0] rfl rfl) ?_)
  refine qF H <| qr 2 rfl <| qK ?_;clear H a;intro a H
  refine wq_no H rfl rfl rfl rfl rfl ?_;clear H a;intro a H
  refine wq_no H rfl rfl rfl rfl rfl ?_;clear H a;intro a H
  refine wq_no H rfl rfl rfl rfl rfl ?_;clear H a;intro a H
  refine wq_no H rfl rfl rfl rfl rfl ?_;clear H a;intro a H
  refine wq_no H rfl rfl rfl rfl rfl ?_;clear H a;intro a H
  refine wq_no H rfl rfl rfl rfl rfl ?_;clear H a;intro a H
  refine wq_no H rfl rfl rfl rfl rfl ?_;clear H a;intro a H
  refine wq_no H rfl rfl rfl rfl rfl ?_;clear H a;intro a H
  refine qF H <| qd rfl (fun _ S => (does_pick rfl rfl rfl)) <| qK ?_;clear H a;intro a H
  refine wq_nil ?_
  refine k18 _ _ ?_
  clear k18 K18
  refine cond_ H rfl (fun hc5 => ?_) (fun hc5 => ?_)
  ·skip
   skip
   replace H := H.keep [] rfl
   refine sS H fun K19 k19=>sr 1 rfl <| sE ?_;clear H a;intro a H
   refine k19 _ ?_;clear k19 K19
   refine wp_ret ?_
   refine ret1 (fn := Try.f81) rfl H rfl ?_
   refine ⟨congrArg (Value.int .i64) ?_, (S.sel [] rfl rfl)⟩; unfold dayE; rw [if_neg (by omega), hqOk_not (k := k) (by omega) (by unfold hqOk; rw [decide_eq_false hB]; rfl)]; rfl
  skip
  cases hc5
 refine wp_exit ?_
 refine k9 _ _ ?_
 refine sS H fun K20 k20=>sr 1 rfl <| sE ?_;clear H a;intro a H
 refine k20 _ ?_;clear k20 K20
 refine wp_ret ?_
 refine ret1 (fn := Try.f81) rfl H rfl ?_
 obtain rfl : k = day.length := by omega
 exact ⟨congrArg (Value.int .i64) (dayE_zero hst (by rw [dayOk_of hp.2.2]; exact decide_eq_true (by omega))).symm, (S.sel [] rfl rfl)⟩

theorem ref_CheckPromises (pl : Int) (ps : List Psg) (PA : Option Addr) (pc : Nat) (xs : List Int) (XA : Option Addr) (xc : Nat) (day : List Hq) (HA : Option Addr) (hcp : Nat) (DA : Nat → Option Addr) (dc : Nat → Nat) (l : List Prm) (LA : Option Addr) (lc : Nat) (w : World) (hps : InS w noF 7 PA ps.length (pcell ps)) (hpn : ps.length ≤ 9223372036854775807) (hxs : InS w noF 1 XA xs.length (icl xs)) (hxn : xs.length ≤ 9223372036854775807) (hday : InS w noF 3 HA day.length (hcl day DA dc)) (hdn : day.length ≤ 9223372036854775807) (hdp : ∀ k, k < day.length → InS w noF 1 (DA k) (day.getD k Hq.zero).pe.length (icl (day.getD k Hq.zero).pe)) (hdl : ∀ k, k < day.length → (day.getD k Hq.zero).pe.length ≤ 9223372036854775807) (hl : InS w noF 5 LA l.length (prcell l)) (hln : l.length ≤ 9223372036854775807) :
    Calls Try.prog 43 [.agg [.int .i64 pl, .slice PA ps.length pc, .slice XA xs.length xc].toArray, .slice HA day.length hcp, .slice LA l.length lc].toArray w (Ret (fun v w' => v = .int .i64 (keptE pl ps xs day l) ∧ St w noF [] w')) := by
 refine enter Try.func43 rfl Try.ntmps43 rfl (fun a H => ?_)
 have S := St.start w
 refine seq_list fun K1 k1 => ?_
 refine list_box H rfl S rfl rfl ?_;clear H a S;intro b3 _ a hb3 hbw3 S H
 refine ls 1 H <| sr 1 rfl <| sE ?_;clear H a;intro a H
 refine k1 _ _ ?_;clear k1 K1
 refine seq_list fun K2 k2 => ?_
 refine ls 2 H <| sd ((does_loadBox agg_25 sz_25 rfl S (i := 0) rfl rfl)) <| sr 1 rfl <| sE ?_;clear H a;intro a H
 refine list_call H rfl rfl Try.func81 rfl rfl (ref_CheckDay pl ps PA pc xs XA xc day HA hcp DA dc _ (hps.now S) hpn (hxs.now S) hxn (hday.now S) hdn (fun k hk => (hdp k hk).now S) hdl) ?_;clear H a
 rintro _ _ a ⟨rfl, S2⟩ H
 replace S := S.call S2;clear S2
 refine ls 1 H <| sr 1 rfl <| sE ?_;clear H a;intro a H
 refine k2 _ _ ?_;clear k2 K2
 refine wp_seq_k fun K3 k3 => ?_
 refine sS H fun K4 k4=>sr 2 rfl <| sE ?_;clear H a;intro a H
 refine k4 _ ?_;clear k4 K4
 refine condN H rfl (fun hc1 => ?_) (fun hc1 => ?_)
 ·skip
  replace H := H.keep [7] rfl
  refine sS H fun K5 k5=>sr 2 rfl <| sE ?_;clear H a;intro a H
  refine k5 _ ?_;clear k5 K5
  refine wp_ret ?_
  refine ret1 (fn := Try.f43) rfl H rfl ?_
  refine ⟨congrArg (Value.int .i64) ?_, (S.sel [] rfl rfl)⟩; unfold keptE; rw [if_pos hc1]
 have hdE : dayE pl ps xs day = 0 := by omega
 have hV := st_valid (dayE_ok hdE).1
 have hP10 := hV.size
 refine wp_skip ?_
 refine k3 _ _ ?_
 refine wp_seq_k fun K6 k6 => ?_
 refine sS H fun K7 k7=>sr 1 rfl <| sL sl_66 rfl <| sr 1 rfl <| sE ?_;clear H a;intro a H
 refine k7 _ ?_;clear k7 K7
 refine condL H rfl (fun hc2 => ?_) (fun hc2 => ?_)
 ·skip
  refine sS H fun K8 k8=>sr 1 rfl <| sE ?_;clear H a;intro a H
  refine k8 _ ?_;clear k8 K8
  refine wp_ret ?_
  refine ret1 (fn := Try.f43) rfl H rfl ?_
  exact ⟨congrArg (Value.int .i64) (keptE_prs hdE (prs_many (by omega))).symm, (S.sel [] rfl rfl)⟩
 refine wp_skip ?_
 refine k6 _ _ ?_
 refine wp_seq_k fun K9 k9 => ?_
 refine sS H fun K10 k10=>sr 1 rfl <| sE ?_;clear H a;intro a H
 refine k10 _ ?_;clear k10 K10
 refine wp_block ?_
 refine loop_st (X := Nat) (R0 := _) [2, 3] H rfl (fun k => [(8, .int .i64 (k : Int))]) (fun k => []) (fun g k => k ≤ l.length ∧ g + k = l.length ∧ allN (fun k => prmOk pl (l.getD k Prm.zero)) k = true) (l.length) 0 ?_ (S.sel [0] rfl rfl) (H.keep [8, 2, 3] rfl) ?_
 · exact ⟨by omega, by omega, rfl⟩
 clear H S a
 intro g1 x1 a w1 hp S H K11 k11
 obtain ⟨k, rfl⟩ : ∃ y, y = x1 := ⟨_, rfl⟩
 refine wp_seq_k fun K12 k12 => ?_
 refine sS H fun K13 k13=>sr 2 rfl <| sL sl_66 rfl <| sr 1 rfl <| sE ?_;clear H a;intro a H
 refine k13 _ ?_;clear k13 K13
 refine condL H rfl (fun hc3 => ?_) (fun hc3 => ?_)
 ·skip
  refine wp_skip ?_
  refine k12 _ _ ?_
  refine wp_seq_k fun K14 k14 => ?_
  refine wp_block ?_
  replace H := H.keep [2, 3, 8] rfl
  refine seq_list fun K15 k15 => ?_
  refine ls 4 H <| sr 2 rfl <| si sl_66 sz_72 rfl rfl (hl.adr (by omega)) (by omega) <| sd ((does_loadIn agg_72 sz_72 rfl S hl (by omega) (by omega))) <| sE ?_;clear H a;intro a H
  refine list_alloc H rfl S ze_72 ?_;clear H a S;intro b9 _ a hb9 hbw9 S H
  refine list_store H S (i := 0) rfl rfl rfl rfl sz_72 rfl rfl ?_
  clear H a S;intro _ a S H
  refine k15 _ _ ?_;clear k15 K15
  replace H := H.keep [2, 3, 8, 9] rfl
  refine sS H fun K16 k16=>sf fo_72_0 rfl <| sl S 0 one_3 rfl rfl rfl <| sf fo_25_0 rfl <| sl S 1 one_3 rfl rfl rfl <| sd (does_sub rfl rfl (by unfold i64ok; omega)) <| sc rfl Try.func56 rfl rfl (ref_from _ _ _ _) <| sr 2 rfl <| sg 7 7 36 43 false rfl rfl (fun hg8 => by
      have hq8 := hg8;try simp only [o1,o2,o3,o4,o5,o6,o7,o8,o9,oa] at hq8
      exact sy hg8 <| sf fo_72_1 rfl <| sy hg8 <| sl S 0 one_3 rfl rfl rfl <| sy hg8 <| sf fo_25_0 rfl <| sy hg8 <| sl S 1 one_3 rfl rfl rfl <| sy hg8 <| sd (does_sub rfl rfl (by unfold i64ok; omega)) <| sy hg8 <| sc rfl Try.func56 rfl rfl (ref_from _ _ _ _) <| sy hg8 <| sr 1 rfl <| sz 7 rfl rfl rfl) <| so rfl rfl rfl <| sr 1 rfl <| sg 6 16 45 51 false rfl rfl (fun hg17 => by
      have hq17 := hg17;try simp only [o1,o2,o3,o4,o5,o6,o7,o8,o9,oa] at hq17
      exact sy hg17 <| sf fo_72_2 rfl <| sy hg17 <| sl S 0 one_3 rfl rfl rfl <| sy hg17 <| sf fo_72_3 rfl <| sy hg17 <| sl S 0 one_3 rfl rfl rfl <| sy hg17 <| sc rfl Try.func56 rfl rfl (ref_from _ _ _ _) <| sy hg17 <| sr 1 rfl <| sz 6 rfl rfl rfl) <| so rfl rfl rfl <| sr 1 rfl <| sg 3 24 53 56 false rfl rfl (fun hg25 => by
      have hq25 := hg25;try simp only [o1,o2,o3,o4,o5,o6,o7,o8,o9,oa] at hq25
      exact sy hg25 <| sf fo_72_3 rfl <| sy hg25 <| sl S 0 one_3 rfl rfl rfl <| sy hg25 <| sr 1 rfl <| sz 3 rfl rfl rfl) <| so rfl rfl rfl <| sE ?_;clear H a;intro a H
  refine k16 _ ?_;clear k16 K16
  refine cond_ H rfl (fun hc4 => ?_) (fun hc4 => ?_)
  ·skip
   try simp only [o1,o2,o3,o4,o5,o6,o7,o8,o9,oa] at hc4
   replace H := H.keep [] rfl
   refine sS H fun K17 k17=>sr 1 rfl <| sE ?_;clear H a;intro a H
   refine k17 _ ?_;clear k17 K17
   refine wp_ret ?_
   refine ret1 (fn := Try.f43) rfl H rfl ?_
   exact ⟨congrArg (Value.int .i64) (keptE_prs hdE (prs_bad (k := k) (by omega) (prm_no (by omega)))).symm, (S.sel [] rfl rfl)⟩
  try simp only [o1,o2,o3,o4,o5,o6,o7,o8,o9,oa] at hc4
  refine wp_skip ?_
  refine k14 _ _ ?_
  refine sO H <| sr 1 rfl <| sd (does_add rfl rfl (by unfold i64ok; omega)) <| sr 1 rfl <| sE ?_;clear H a;intro a H
  exact k11 (g1 - 1) (k + 1) a _ (by omega) (⟨by omega, by omega, allN_step hp.2.2 (prmOk_iff.2 (by omega))⟩) (S.sel [1] rfl rfl) (H.keep [8, 2, 3] rfl)
 refine wp_exit ?_
 refine k9 _ _ ?_
 refine sS H fun K19 k19=>sr 1 rfl <| sE ?_;clear H a;intro a H
 refine k19 _ ?_;clear k19 K19
 refine wp_ret ?_
 refine ret1 (fn := Try.f43) rfl H rfl ?_
 obtain rfl : k = l.length := by omega
 exact ⟨congrArg (Value.int .i64) (keptE_zero hdE (prs_all hp.2.2 (by omega))).symm, (S.sel [] rfl rfl)⟩

theorem ref_Kept (pl : Int) (ps : List Psg) (PA : Option Addr) (pc : Nat) (xs : List Int) (XA : Option Addr) (xc : Nat) (day : List Hq) (HA : Option Addr) (hcp : Nat) (DA : Nat → Option Addr) (dc : Nat → Nat) (l : List Prm) (LA : Option Addr) (lc : Nat) (w : World) (hps : InS w noF 7 PA ps.length (pcell ps)) (hpn : ps.length ≤ 9223372036854775807) (hxs : InS w noF 1 XA xs.length (icl xs)) (hxn : xs.length ≤ 9223372036854775807) (hday : InS w noF 3 HA day.length (hcl day DA dc)) (hdn : day.length ≤ 9223372036854775807) (hdp : ∀ k, k < day.length → InS w noF 1 (DA k) (day.getD k Hq.zero).pe.length (icl (day.getD k Hq.zero).pe)) (hdl : ∀ k, k < day.length → (day.getD k Hq.zero).pe.length ≤ 9223372036854775807) (hl : InS w noF 5 LA l.length (prcell l)) (hln : l.length ≤ 9223372036854775807) :
    Calls Try.prog 42 [.agg [.int .i64 pl, .slice PA ps.length pc, .slice XA xs.length xc].toArray, .slice HA day.length hcp, .slice LA l.length lc].toArray w (Ret (fun u w' => u = .tuple #[.int .i64 (keptV pl ps xs day l).1, .int .i64 (keptV pl ps xs day l).2.1, .bool (keptV pl ps xs day l).2.2.1, .int .i64 (keptV pl ps xs day l).2.2.2] ∧ St w noF [] w')) := by
 refine enter Try.func42 rfl Try.ntmps42 rfl (fun a H => ?_)
 have S := St.start w
 refine seq_list fun K1 k1 => ?_
 refine list_box H rfl S rfl rfl ?_;clear H a S;intro b3 _ a hb3 hbw3 S H
 refine ls 4 H <| sr 4 rfl <| sE ?_;clear H a;intro a H
 refine k1 _ _ ?_;clear k1 K1
 replace H := H.keep [1, 2, 3] rfl
 refine seq_list fun K2 k2 => ?_
 refine ls 3 H <| sd ((does_loadBox agg_25 sz_25 rfl S (i := 0) rfl rfl)) <| sr 2 rfl <| sE ?_;clear H a;intro a H
 refine list_call H rfl rfl Try.func43 rfl rfl (ref_CheckPromises pl ps PA pc xs XA xc day HA hcp DA dc l LA lc _ (hps.now S) hpn (hxs.now S) hxn (hday.now S) hdn (fun k hk => (hdp k hk).now S) hdl (hl.now S) hln) ?_;clear H a
 rintro _ _ a ⟨rfl, S2⟩ H
 replace S := S.call S2;clear S2
 refine ls 1 H <| sr 1 rfl <| sE ?_;clear H a;intro a H
 refine k2 _ _ ?_;clear k2 K2
 refine wp_seq_k fun K3 k3 => ?_
 refine sS H fun K4 k4=>sr 2 rfl <| sE ?_;clear H a;intro a H
 refine k4 _ ?_;clear k4 K4
 refine condN H rfl (fun hc1 => ?_) (fun hc1 => ?_)
 ·skip
  replace H := H.keep [10] rfl
  refine sS H fun K5 k5=>sr 5 rfl <| sE ?_;clear H a;intro a H
  refine k5 _ ?_;clear k5 K5
  refine wp_ret ?_
  refine ret4 (fn := Try.f42) rfl H rfl rfl rfl rfl ?_
  rw [kept_err hc1]
  exact ⟨rfl, (S.sel [] rfl rfl)⟩
 have hkE : keptE pl ps xs day l = 0 := by omega
 obtain ⟨hdE, hl40, hpr⟩ := keptE_ok hkE
 obtain ⟨hst, hdk⟩ := dayE_ok hdE
 have hdk := dayOk_ok hdk
 have hV0 := st_valid hst
 obtain ⟨P, rfl⟩ : ∃ P : Nat, pl = P := ⟨pl.toNat, by have := hV0.size; omega⟩
 have hV := hV0
 have hP10 := hV.size
 refine wp_skip ?_
 refine k3 _ _ ?_
 refine wp_seq_k fun K6 k6 => ?_
 refine sS H fun K7 k7=>sr 1 rfl <| sE ?_;clear H a;intro a H
 refine k7 _ ?_;clear k7 K7
 refine wp_block ?_
 refine loop_st (X := Nat) (R0 := _) [1, 2, 3] H rfl (fun h => [(11, .int .i64 (h : Int))]) (fun h => []) (fun g h => h ≤ day.length ∧ g + h = day.length ∧ ∀ q, q < h → ∀ j, j < l.length → broken P ps (day.getD q Hq.zero) q (l.getD j Prm.zero) = false) (day.length) 0 ?_ (S.sel [0] rfl rfl) (H.keep [11, 1, 2, 3] rfl) ?_
 · exact ⟨by omega, by omega, fun q hq => absurd hq (Nat.not_lt_zero q)⟩
 clear H S a
 intro g1 x1 a w1 hp S H K8 k8
 obtain ⟨h, rfl⟩ : ∃ y, y = x1 := ⟨_, rfl⟩
 obtain ⟨hhl, hgh, hBr⟩ := hp
 refine wp_seq_k fun K9 k9 => ?_
 refine sS H fun K10 k10=>sr 2 rfl <| sL sl_65 rfl <| sr 1 rfl <| sE ?_;clear H a;intro a H
 refine k10 _ ?_;clear k10 K10
 refine condL H rfl (fun hc2 => ?_) (fun hc2 => ?_)
 ·skip
  have hdo := hdk.2 h (by omega)
  refine wp_skip ?_
  refine k9 _ _ ?_
  refine wp_seq_k fun K11 k11 => ?_
  refine wp_block ?_
  refine sS H fun K12 k12=>sr 1 rfl <| sE ?_;clear H a;intro a H
  refine k12 _ ?_;clear k12 K12
  refine wp_block ?_
  refine loop_st (X := Nat) (R0 := _) [1, 2, 3, 11] H rfl (fun i => [(12, .int .i64 (i : Int))]) (fun i => []) (fun g i => i ≤ l.length ∧ g + i = l.length ∧ ∀ j, j < i → broken P ps (day.getD h Hq.zero) h (l.getD j Prm.zero) = false) (l.length) 0 ?_ (S.sel [0] rfl rfl) (H.keep [12, 1, 2, 3, 11] rfl) ?_
  · exact ⟨by omega, by omega, fun q hq => absurd hq (Nat.not_lt_zero q)⟩
  clear H S a
  intro g2 x2 a w2 hp S H K13 k13
  obtain ⟨i, rfl⟩ : ∃ y, y = x2 := ⟨_, rfl⟩
  refine wp_seq_k fun K14 k14 => ?_
  refine sS H fun K15 k15=>sr 2 rfl <| sL sl_66 rfl <| sr 1 rfl <| sE ?_;clear H a;intro a H
  refine k15 _ ?_;clear k15 K15
  refine condL H rfl (fun hc3 => ?_) (fun hc3 => ?_)
  ·skip
   have hpi := prmOk_iff.1 (hpr i (by omega))
   refine wp_skip ?_
   refine k14 _ _ ?_
   refine wp_seq_k fun K16 k16 => ?_
   refine wp_block ?_
   replace H := H.keep [1, 2, 3, 11, 12] rfl
   refine seq_list fun K17 k17 => ?_
   refine ls 4 H <| sr 2 rfl <| si sl_66 sz_72 rfl rfl (hl.adr (by omega)) (by omega) <| sd ((does_loadIn agg_72 sz_72 rfl S hl (by omega) (by omega))) <| sE ?_;clear H a;intro a H
   refine list_alloc H rfl S ze_72 ?_;clear H a S;intro b13 _ a hb13 hbw13 S H
   refine list_store H S (i := 0) rfl rfl rfl rfl sz_72 rfl rfl ?_
   clear H a S;intro _ a S H
   refine k17 _ _ ?_;clear k17 K17
   rcases kc4 (l.getD i Prm.zero).first (l.getD i Prm.zero).last (h : Int) (day.getD h Hq.zero).help with hB | hB | hB | hB
   ·skip
    replace H := H.keep [1, 2, 3, 11, 12, 13] rfl
    replace S := S.drew
    refine seq_wq [(0, true), (1, true), (2, true), (3, true), (4, true), (5, true), (6, true), (7, true), (8, true), (9, true), (10, true), (11, true), (12, true), (13, true), (14, true), (15, true), (16, true), (17, true), (18, true), (19, true), (20, true), (21, true), (22, true), (23, true), (24, true), (25, true), (26, true), (27, true), (28, true), (29, true), (30, true), (31, true), (32, true), (33, true), (34, true)] (by kernel_rfl) (by kernel_rfl) (S.sel [0, 1] rfl rfl) fun K18 k18 => ?_
    refine qF H <| qd rfl (fun _ S => (does_field fo_72_2 rfl)) <| qd rfl (fun _ S => does_load one_3 rfl (boxM.rd S (i := 0) rfl rfl)) <| qr 1 rfl <| qd rfl (fun _ S => does_le_f rfl rfl hB) <| qr 1 rfl <| qK ?_;clear H a;intro a H
    refine wq_no H rfl rfl rfl rfl rfl ?_;clear H a;intro a H
    refine wq_no H rfl rfl rfl rfl rfl ?_;clear H a;intro a H
    refine wq_no H rfl rfl rfl rfl rfl ?_;clear H a;intro a H
    refine wq_no H rfl rfl rfl rfl rfl ?_;clear H a;intro a H
    refine qF H <| qd rfl (fun _ S => (does_pick rfl rfl rfl)) <| qr 1 rfl <| qK ?_;clear H a;intro a H
    refine wq_no H rfl rfl rfl rfl rfl ?_;clear H a;intro a H
    refine wq_no H rfl rfl rfl rfl rfl ?_;clear H a;intro a H
    refine wq_no H rfl rfl rfl rfl rfl ?_;clear H a;intro a H
    refine wq_no H rfl rfl rfl rfl rfl ?_;clear H a;intro a H
    refine wq_no H rfl rfl rfl rfl rfl ?_;clear H a;intro a H
    refine wq_no H rfl rfl rfl rfl rfl ?_;clear H a;intro a H
    refine wq_no H rfl rfl rfl rfl rfl ?_;clear H a;intro a H
    refine wq_no H rfl rfl rfl rfl rfl ?_;clear H a;intro a H
    refine wq_no H rfl rfl rfl rfl rfl ?_;clear H a;intro a H
    refine wq_no H rfl rfl rfl rfl rfl ?_;clear H a;intro a H
    refine wq_no H rfl rfl rfl rfl rfl ?_;clear H a;intro a H
    refine wq_no H rfl rfl rfl rfl rfl ?_;clear H a;intro a H
    refine wq_un H rfl rfl rfl rfl ?_;clear H a;intro a H
    refine wq_un H rfl rfl rfl rfl ?_;clear H a;intro a H
    refine wq_no H rfl rfl rfl rfl rfl ?_;clear H a;intro a H
    refine wq_no H rfl rfl rfl rfl rfl ?_;clear H a;intro a H
    refine wq_no H rfl rfl rfl rfl rfl ?_;clear H a;intro a H
    refine wq_no H rfl rfl rfl rfl rfl ?_;clear H a;intro a H
    refine wq_no H rfl rfl rfl rfl rfl ?_;clear H a;intro a H
    refine wq_no H rfl rfl rfl rfl rfl ?_;clear H a;intro a H
    refine wq_no H rfl rfl rfl rfl rfl ?_;clear H a;intro a H
    refine wq_no H rfl rfl rfl rfl rfl ?_;clear H a;intro a H
    refine wq_no H rfl rfl rfl rfl rfl ?_;clear H a;intro a H
    refine qF H <| qd rfl (fun _ S => (does_pick rfl rfl rfl)) <| qK ?_;clear H a;intro a H
    refine wq_nil ?_
    refine k18 _ _ ?_
    clear k18 K18
    refine cond_ H rfl (fun hc4 => ?_) (fun hc4 => ?_)
    ·skip
     skip
     cases hc4
    skip
    have hbr : broken P ps (day.getD h Hq.zero) h (l.getD i Prm.zero) = false := broken_f1 (by omega)
    refine wp_skip ?_
    refine k16 _ _ ?_
    replace H := H.keep [1, 2, 3, 11, 12] rfl
    refine sO H <| sr 1 rfl <| sd (does_add rfl rfl (by unfold i64ok; omega)) <| sr 1 rfl <| sE ?_;clear H a;intro a H
    exact k13 (g2 - 1) (i + 1) a _ (by omega) (⟨by omega, by omega, no_next hp.2.2 hbr⟩) (S.sel [1] rfl rfl) (H.keep [12, 1, 2, 3, 11] rfl)
   ·skip
    replace H := H.keep [1, 2, 3, 11, 12, 13] rfl
    replace S := S.drew
    refine seq_wq [(0, true), (1, true), (2, true), (3, true), (4, true), (5, true), (6, true), (7, true), (8, true), (9, true), (10, true), (11, true), (12, true), (13, true), (14, true), (15, true), (16, true), (17, true), (18, true), (19, true), (20, true), (21, true), (22, true), (23, true), (24, true), (25, true), (26, true), (27, true), (28, true), (29, true), (30, true), (31, true), (32, true), (33, true), (34, true)] (by kernel_rfl) (by kernel_rfl) (S.sel [0, 1] rfl rfl) fun K20 k20 => ?_
    refine qF H <| qd rfl (fun _ S => (does_field fo_72_2 rfl)) <| qd rfl (fun _ S => does_load one_3 rfl (boxM.rd S (i := 0) rfl rfl)) <| qr 1 rfl <| qd rfl (fun _ S => does_le_t rfl rfl hB.1) <| qr 1 rfl <| qK ?_;clear H a;intro a H
    refine wq_yes H rfl rfl rfl rfl (fun _ S => does_move rfl) ?_;clear H a;intro a H
    refine wq_yes H rfl rfl rfl rfl (fun _ S => (does_field fo_72_3 rfl)) ?_;clear H a;intro a H
    refine wq_yes H rfl rfl rfl rfl (fun _ S => does_load one_3 rfl (boxM.rd S (i := 0) rfl rfl)) ?_;clear H a;intro a H
    refine wq_yes H rfl rfl rfl rfl (fun _ S => does_le_f rfl rfl hB.2) ?_;clear H a;intro a H
    refine qF H <| qd rfl (fun _ S => (does_and rfl rfl rfl)) <| qr 1 rfl <| qK ?_;clear H a;intro a H
    refine wq_no H rfl rfl rfl rfl rfl ?_;clear H a;intro a H
    refine wq_no H rfl rfl rfl rfl rfl ?_;clear H a;intro a H
    refine wq_no H rfl rfl rfl rfl rfl ?_;clear H a;intro a H
    refine wq_no H rfl rfl rfl rfl rfl ?_;clear H a;intro a H
    refine wq_no H rfl rfl rfl rfl rfl ?_;clear H a;intro a H
    refine wq_no H rfl rfl rfl rfl rfl ?_;clear H a;intro a H
    refine wq_no H rfl rfl rfl rfl rfl ?_;clear H a;intro a H
    refine wq_no H rfl rfl rfl rfl rfl ?_;clear H a;intro a H
    refine wq_no H rfl rfl rfl rfl rfl ?_;clear H a;intro a H
    refine wq_no H rfl rfl rfl rfl rfl ?_;clear H a;intro a H
    refine wq_no H rfl rfl rfl rfl rfl ?_;clear H a;intro a H
    refine wq_no H rfl rfl rfl rfl rfl ?_;clear H a;intro a H
    refine wq_un H rfl rfl rfl rfl ?_;clear H a;intro a H
    refine wq_un H rfl rfl rfl rfl ?_;clear H a;intro a H
    refine wq_no H rfl rfl rfl rfl rfl ?_;clear H a;intro a H
    refine wq_no H rfl rfl rfl rfl rfl ?_;clear H a;intro a H
    refine wq_no H rfl rfl rfl rfl rfl ?_;clear H a;intro a H
    refine wq_no H rfl rfl rfl rfl rfl ?_;clear H a;intro a H
    refine wq_no H rfl rfl rfl rfl rfl ?_;clear H a;intro a H
    refine wq_no H rfl rfl rfl rfl rfl ?_;clear H a;intro a H
    refine wq_no H rfl rfl rfl rfl rfl ?_;clear H a;intro a H
    refine wq_no H rfl rfl rfl rfl rfl ?_;clear H a;intro a H
    refine wq_no H rfl rfl rfl rfl rfl ?_;clear H a;intro a H
    refine qF H <| qd rfl (fun _ S => (does_pick rfl rfl rfl)) <| qK ?_;clear H a;intro a H
    refine wq_nil ?_
    refine k20 _ _ ?_
    clear k20 K20
    refine cond_ H rfl (fun hc5 => ?_) (fun hc5 => ?_)
    ·skip
     skip
     cases hc5
    skip
    have hbr : broken P ps (day.getD h Hq.zero) h (l.getD i Prm.zero) = false := broken_f1 (by omega)
    refine wp_skip ?_
    refine k16 _ _ ?_
    replace H := H.keep [1, 2, 3, 11, 12] rfl
    refine sO H <| sr 1 rfl <| sd (does_add rfl rfl (by unfold i64ok; omega)) <| sr 1 rfl <| sE ?_;clear H a;intro a H
    exact k13 (g2 - 1) (i + 1) a _ (by omega) (⟨by omega, by omega, no_next hp.2.2 hbr⟩) (S.sel [1] rfl rfl) (H.keep [12, 1, 2, 3, 11] rfl)
   ·skip
    replace H := H.keep [1, 2, 3, 11, 12, 13] rfl
    replace S := S.drew
    refine seq_wq [(0, true), (1, true), (2, true), (3, true), (4, true), (5, true), (6, true), (7, true), (8, true), (9, true), (10, true), (11, true), (12, true), (13, true), (14, true), (15, true), (16, true), (17, true), (18, true), (19, true), (20, true), (21, true), (22, true), (23, true), (24, true), (25, true), (26, true), (27, true), (29, true), (30, true), (28, false), (31, false), (32, false), (33, true), (34, true)] (by kernel_rfl) (by kernel_rfl) (S.sel [0, 1] rfl rfl) fun K22 k22 => ?_
    refine qF H <| qd rfl (fun _ S => (does_field fo_72_2 rfl)) <| qd rfl (fun _ S => does_load one_3 rfl (boxM.rd S (i := 0) rfl rfl)) <| qr 1 rfl <| qd rfl (fun _ S => does_le_t rfl rfl hB.1) <| qr 1 rfl <| qK ?_;clear H a;intro a H
    refine wq_yes H rfl rfl rfl rfl (fun _ S => does_move rfl) ?_;clear H a;intro a H
    refine wq_yes H rfl rfl rfl rfl (fun _ S => (does_field fo_72_3 rfl)) ?_;clear H a;intro a H
    refine wq_yes H rfl rfl rfl rfl (fun _ S => does_load one_3 rfl (boxM.rd S (i := 0) rfl rfl)) ?_;clear H a;intro a H
    refine wq_yes H rfl rfl rfl rfl (fun _ S => does_le_t rfl rfl hB.2.1) ?_;clear H a;intro a H
    refine qF H <| qd rfl (fun _ S => (does_and rfl rfl rfl)) <| qr 1 rfl <| qK ?_;clear H a;intro a H
    refine wq_yes H rfl rfl rfl rfl (fun _ S => (does_loadBox agg_25 sz_25 rfl S (i := 1) rfl rfl)) ?_;clear H a;intro a H
    refine wq_yes H rfl rfl rfl rfl (fun _ S => does_move rfl) ?_;clear H a;intro a H
    refine wq_yes H rfl rfl rfl rfl (fun _ S => does_move rfl) ?_;clear H a;intro a H
    refine wq_yes H rfl rfl rfl rfl (fun _ S => does_indexN sl_65 sz_74 rfl rfl (hday.adr (by omega)) (by omega)) ?_;clear H a;intro a H
    refine wq_yes H rfl rfl rfl rfl (fun _ S => (does_field_pt fo_74_0 rfl)) ?_;clear H a;intro a H
    refine wq_yes H rfl rfl rfl rfl (fun _ S => does_load one_3 rfl (hday.rd S (by omega) (by omega))) ?_;clear H a;intro a H
    refine wq_yes H rfl rfl rfl rfl (fun _ S => does_move rfl) ?_;clear H a;intro a H
    refine wq_yes H rfl rfl rfl rfl (fun _ S => does_move rfl) ?_;clear H a;intro a H
    refine wq_yes H rfl rfl rfl rfl (fun _ S => does_indexN sl_65 sz_74 rfl rfl (hday.adr (by omega)) (by omega)) ?_;clear H a;intro a H
    refine wq_yes H rfl rfl rfl rfl (fun _ S => (does_field_pt fo_74_1 rfl)) ?_;clear H a;intro a H
    refine wq_yes H rfl rfl rfl rfl (fun _ S => (does_load one_4 rfl (hday.rd S (k := h) (j := 1) (by omega) (by omega))).to (congrArg Value.bool hB.2.2)) ?_;clear H a;intro a H
    refine wq_yes H rfl rfl rfl rfl (fun _ S => does_move rfl) ?_;clear H a;intro a H
    refine wq_no H rfl rfl rfl rfl rfl ?_;clear H a;intro a H
    refine wq_no H rfl rfl rfl rfl rfl ?_;clear H a;intro a H
    refine wq_yes H rfl rfl rfl rfl (fun _ S => (does_pick rfl rfl rfl)) ?_;clear H a;intro a H
    refine wq_yes H rfl rfl rfl rfl (fun _ S => (does_field fo_72_1 rfl)) ?_;clear H a;intro a H
    refine wq_yes H rfl rfl rfl rfl (fun _ S => does_load one_3 rfl (boxM.rd S (i := 0) rfl rfl)) ?_;clear H a;intro a H
    refine wq_yes H rfl rfl rfl rfl (fun _ S => (does_field fo_72_0 rfl)) ?_;clear H a;intro a H
    refine wq_yes H rfl rfl rfl rfl (fun _ S => does_load one_3 rfl (boxM.rd S (i := 0) rfl rfl)) ?_;clear H a;intro a H
    refine wq_eff rfl ?_
    refine list_yes H rfl rfl ?_
    refine list_call H rfl rfl Try.func53 rfl rfl (ref_reach P ps PA pc xs XA xc (day.getD h Hq.zero).out false (l.getD i Prm.zero).to _ (hps.now S) hpn (hxs.now S) hxn hV hdo.1.1 (by omega)) ?_;clear H a
    rintro _ _ a ⟨A5, c5, rfl, hdj, S2⟩ H
    replace S := S.call S2;clear S2
    have hsm := hdj.sml (l.getD i Prm.zero).fr.toNat (by omega)
    refine wpList_nil (And.intro (S.sel [1, 2] rfl rfl) ?_)
    refine wq_eff rfl ?_
    refine list_yes H rfl rfl ?_
    refine ls 1 H <| sI sl_23 sz_3 rfl rfl (ownM.adr S (i := 0) rfl (by omega)) (by omega) (by omega) <| sE ?_;clear H a;intro a H
    refine wpList_nil (And.intro (S.sel [1, 2] rfl rfl) ?_)
    refine wq_eff rfl ?_
    refine list_yes H rfl rfl ?_
    refine ls 1 H <| slm one_3 rfl (ownM.rd S (i := 0) rfl (by omega) (by omega)) <| sE ?_;clear H a;intro a H
    refine wpList_nil (And.intro (S.sel [1, 2] rfl rfl) ?_)
    refine wq_yes H rfl rfl rfl rfl (fun _ S => does_eql rfl rfl) ?_;clear H a;intro a H
    refine qF H <| qd rfl (fun _ S => (does_and rfl rfl rfl)) <| qK ?_;clear H a;intro a H
    refine wq_nil ?_
    refine k22 _ _ ?_
    clear k22 K22
    refine cond_ H rfl (fun hc6 => ?_) (fun hc6 => ?_)
    ·skip
     try simp only [o1,o2,o3,o4,o5,o6,o7,o8,o9,oa] at hc6
     have hbr : broken P ps (day.getD h Hq.zero) h (l.getD i Prm.zero) = true := broken_t (by omega) (by rw [hB.2.2]; exact (rv_far hsm).1 hc6.2)
     replace H := H.keep [11, 12] rfl
     refine sS H fun K23 k23=>sr 6 rfl <| sE ?_;clear H a;intro a H
     refine k23 _ ?_;clear k23 K23
     refine wp_ret ?_
     refine ret4 (fn := Try.f42) rfl H rfl rfl rfl rfl ?_
     rw [kept_at hkE (by omega) (by omega) hBr hp.2.2 hbr]
     exact ⟨rfl, (S.sel [] rfl rfl)⟩
    try simp only [o1,o2,o3,o4,o5,o6,o7,o8,o9,oa] at hc6
    have hbr : broken P ps (day.getD h Hq.zero) h (l.getD i Prm.zero) = false := broken_f2 (by rw [hB.2.2]; have h9 := mt (rv_far hsm).2 (tt_no hc6); intro h8; apply h9; exact h8)
    refine wp_skip ?_
    refine k16 _ _ ?_
    refine sO H <| sr 1 rfl <| sd (does_add rfl rfl (by unfold i64ok; omega)) <| sr 1 rfl <| sE ?_;clear H a;intro a H
    exact k13 (g2 - 1) (i + 1) a _ (by omega) (⟨by omega, by omega, no_next hp.2.2 hbr⟩) (S.sel [2] rfl rfl) (H.keep [12, 1, 2, 3, 11] rfl)
   replace H := H.keep [1, 2, 3, 11, 12, 13] rfl
   replace S := S.drew
   refine seq_wq [(0, true), (1, true), (2, true), (3, true), (4, true), (5, true), (6, true), (7, true), (8, true), (9, true), (10, true), (11, true), (12, true), (13, true), (14, true), (15, true), (16, true), (17, true), (18, true), (19, true), (20, true), (21, true), (22, true), (23, true), (24, true), (25, true), (26, true), (27, true), (29, true), (30, true), (28, false), (31, false), (32, false), (33, true), (34, true)] (by kernel_rfl) (by kernel_rfl) (S.sel [0, 1] rfl rfl) fun K25 k25 => ?_
   refine qF H <| qd rfl (fun _ S => (does_field fo_72_2 rfl)) <| qd rfl (fun _ S => does_load one_3 rfl (boxM.rd S (i := 0) rfl rfl)) <| qr 1 rfl <| qd rfl (fun _ S => does_le_t rfl rfl hB.1) <| qr 1 rfl <| qK ?_;clear H a;intro a H
   refine wq_yes H rfl rfl rfl rfl (fun _ S => does_move rfl) ?_;clear H a;intro a H
   refine wq_yes H rfl rfl rfl rfl (fun _ S => (does_field fo_72_3 rfl)) ?_;clear H a;intro a H
   refine wq_yes H rfl rfl rfl rfl (fun _ S => does_load one_3 rfl (boxM.rd S (i := 0) rfl rfl)) ?_;clear H a;intro a H
   refine wq_yes H rfl rfl rfl rfl (fun _ S => does_le_t rfl rfl hB.2.1) ?_;clear H a;intro a H
   refine qF H <| qd rfl (fun _ S => (does_and rfl rfl rfl)) <| qr 1 rfl <| qK ?_;clear H a;intro a H
   refine wq_yes H rfl rfl rfl rfl (fun _ S => (does_loadBox agg_25 sz_25 rfl S (i := 1) rfl rfl)) ?_;clear H a;intro a H
   refine wq_yes H rfl rfl rfl rfl (fun _ S => does_move rfl) ?_;clear H a;intro a H
   refine wq_yes H rfl rfl rfl rfl (fun _ S => does_move rfl) ?_;clear H a;intro a H
   refine wq_yes H rfl rfl rfl rfl (fun _ S => does_indexN sl_65 sz_74 rfl rfl (hday.adr (by omega)) (by omega)) ?_;clear H a;intro a H
   refine wq_yes H rfl rfl rfl rfl (fun _ S => (does_field_pt fo_74_0 rfl)) ?_;clear H a;intro a H
   refine wq_yes H rfl rfl rfl rfl (fun _ S => does_load one_3 rfl (hday.rd S (by omega) (by omega))) ?_;clear H a;intro a H
   refine wq_yes H rfl rfl rfl rfl (fun _ S => does_move rfl) ?_;clear H a;intro a H
   refine wq_yes H rfl rfl rfl rfl (fun _ S => does_move rfl) ?_;clear H a;intro a H
   refine wq_yes H rfl rfl rfl rfl (fun _ S => does_indexN sl_65 sz_74 rfl rfl (hday.adr (by omega)) (by omega)) ?_;clear H a;intro a H
   refine wq_yes H rfl rfl rfl rfl (fun _ S => (does_field_pt fo_74_1 rfl)) ?_;clear H a;intro a H
   refine wq_yes H rfl rfl rfl rfl (fun _ S => (does_load one_4 rfl (hday.rd S (k := h) (j := 1) (by omega) (by omega))).to (congrArg Value.bool hB.2.2)) ?_;clear H a;intro a H
   refine wq_yes H rfl rfl rfl rfl (fun _ S => does_move rfl) ?_;clear H a;intro a H
   refine wq_yes H rfl rfl rfl rfl (fun _ S => (does_field fo_72_4 rfl)) ?_;clear H a;intro a H
   refine wq_yes H rfl rfl rfl rfl (fun _ S => does_load one_4 rfl (boxM.rd S (i := 0) rfl rfl)) ?_;clear H a;intro a H
   refine wq_yes H rfl rfl rfl rfl (fun _ S => (does_and rfl rfl rfl)) ?_;clear H a;intro a H
   refine wq_yes H rfl rfl rfl rfl (fun _ S => (does_field fo_72_1 rfl)) ?_;clear H a;intro a H
   refine wq_yes H rfl rfl rfl rfl (fun _ S => does_load one_3 rfl (boxM.rd S (i := 0) rfl rfl)) ?_;clear H a;intro a H
   refine wq_yes H rfl rfl rfl rfl (fun _ S => (does_field fo_72_0 rfl)) ?_;clear H a;intro a H
   refine wq_yes H rfl rfl rfl rfl (fun _ S => does_load one_3 rfl (boxM.rd S (i := 0) rfl rfl)) ?_;clear H a;intro a H
   refine wq_eff rfl ?_
   refine list_yes H rfl rfl ?_
   refine list_call H rfl rfl Try.func53 rfl rfl (ref_reach P ps PA pc xs XA xc (day.getD h Hq.zero).out (l.getD i Prm.zero).helped (l.getD i Prm.zero).to _ (hps.now S) hpn (hxs.now S) hxn hV hdo.1.1 (by omega)) ?_;clear H a
   rintro _ _ a ⟨A5, c5, rfl, hdj, S2⟩ H
   replace S := S.call S2;clear S2
   have hsm := hdj.sml (l.getD i Prm.zero).fr.toNat (by omega)
   refine wpList_nil (And.intro (S.sel [1, 2] rfl rfl) ?_)
   refine wq_eff rfl ?_
   refine list_yes H rfl rfl ?_
   refine ls 1 H <| sI sl_23 sz_3 rfl rfl (ownM.adr S (i := 0) rfl (by omega)) (by omega) (by omega) <| sE ?_;clear H a;intro a H
   refine wpList_nil (And.intro (S.sel [1, 2] rfl rfl) ?_)
   refine wq_eff rfl ?_
   refine list_yes H rfl rfl ?_
   refine ls 1 H <| slm one_3 rfl (ownM.rd S (i := 0) rfl (by omega) (by omega)) <| sE ?_;clear H a;intro a H
   refine wpList_nil (And.intro (S.sel [1, 2] rfl rfl) ?_)
   refine wq_yes H rfl rfl rfl rfl (fun _ S => does_eql rfl rfl) ?_;clear H a;intro a H
   refine qF H <| qd rfl (fun _ S => (does_and rfl rfl rfl)) <| qK ?_;clear H a;intro a H
   refine wq_nil ?_
   refine k25 _ _ ?_
   clear k25 K25
   refine cond_ H rfl (fun hc7 => ?_) (fun hc7 => ?_)
   ·skip
    try simp only [o1,o2,o3,o4,o5,o6,o7,o8,o9,oa] at hc7
    have hbr : broken P ps (day.getD h Hq.zero) h (l.getD i Prm.zero) = true := broken_t (by omega) (by rw [hB.2.2]; exact (rv_far hsm).1 hc7.2)
    replace H := H.keep [11, 12] rfl
    refine sS H fun K26 k26=>sr 6 rfl <| sE ?_;clear H a;intro a H
    refine k26 _ ?_;clear k26 K26
    refine wp_ret ?_
    refine ret4 (fn := Try.f42) rfl H rfl rfl rfl rfl ?_
    rw [kept_at hkE (by omega) (by omega) hBr hp.2.2 hbr]
    exact ⟨rfl, (S.sel [] rfl rfl)⟩
   try simp only [o1,o2,o3,o4,o5,o6,o7,o8,o9,oa] at hc7
   have hbr : broken P ps (day.getD h Hq.zero) h (l.getD i Prm.zero) = false := broken_f2 (by rw [hB.2.2]; have h9 := mt (rv_far hsm).2 (tt_no hc7); intro h8; apply h9; exact h8)
   refine wp_skip ?_
   refine k16 _ _ ?_
   refine sO H <| sr 1 rfl <| sd (does_add rfl rfl (by unfold i64ok; omega)) <| sr 1 rfl <| sE ?_;clear H a;intro a H
   exact k13 (g2 - 1) (i + 1) a _ (by omega) (⟨by omega, by omega, no_next hp.2.2 hbr⟩) (S.sel [2] rfl rfl) (H.keep [12, 1, 2, 3, 11] rfl)
  refine wp_exit ?_
  refine k11 _ _ ?_
  replace H := H.keep [1, 2, 3, 11] rfl
  refine sO H <| sr 1 rfl <| sd (does_add rfl rfl (by unfold i64ok; omega)) <| sr 1 rfl <| sE ?_;clear H a;intro a H
  exact k8 (g1 - 1) (h + 1) a _ (by omega) (⟨by omega, by omega, broke_row hBr hp.2.2 (by omega)⟩) (S.sel [0] rfl rfl) (H.keep [11, 1, 2, 3] rfl)
 refine wp_exit ?_
 refine k6 _ _ ?_
 refine sS H fun K29 k29=>sr 4 rfl <| sE ?_;clear H a;intro a H
 refine k29 _ ?_;clear k29 K29
 refine wp_ret ?_
 refine ret4 (fn := Try.f42) rfl H rfl rfl rfl rfl ?_
 obtain rfl : h = day.length := by omega
 rw [kept_all hkE hBr]
 exact ⟨rfl, (S.sel [] rfl rfl)⟩

theorem ref_CopyDay (day : List Hq) (HA : Option Addr) (hcp : Nat) (DA : Nat → Option Addr) (dc : Nat → Nat) (w : World) (hday : InS w noF 3 HA day.length (hcl day DA dc)) (hdn : day.length ≤ 9223372036854775807) (hdp : ∀ k, k < day.length → InS w noF 1 (DA k) (day.getD k Hq.zero).pe.length (icl (day.getD k Hq.zero).pe)) (hdl : ∀ k, k < day.length → (day.getD k Hq.zero).pe.length ≤ 9223372036854775807) (hd8 : day.length ≤ 1000) (hdl8 : ∀ k, k < day.length → 8 * (day.getD k Hq.zero).pe.length ≤ 140737488355328) :
    Calls Try.prog 41 [.slice HA day.length hcp].toArray w (Ret (fun u w' => ∃ A c DA2 dc2, u = .slice A day.length c ∧ St w noF [ragM 3 1 (fun q => q < day.length) DA2 (fun q => (day.getD q Hq.zero).pe.length) dc2 (fun q => icl (day.getD q Hq.zero).pe), ownM 74 3 A day.length c (hcl day DA2 dc2)] w')) := by
 refine enter Try.func41 rfl Try.ntmps41 rfl (fun a H => ?_)
 have S := St.start w
 refine sS H fun K1 k1=>sr 1 rfl <| sE ?_;clear H a;intro a H
 refine k1 _ ?_;clear k1 K1
 refine sS H fun K2 k2=>sr 1 rfl <| sE ?_;clear H a;intro a H
 refine k2 _ ?_;clear k2 K2
 refine wp_seq_k fun K3 k3 => ?_
 refine sS H fun K4 k4=>sr 1 rfl <| sE ?_;clear H a;intro a H
 refine k4 _ ?_;clear k4 K4
 refine wp_block ?_
 replace S := (S.newNil 74 3 (hcl day (fun _ => none) (fun _ => 0)))
 replace S := ragM.none S 3 1 (fun _ => none) (fun q => (day.getD q Hq.zero).pe.length) (fun _ => 0) (fun q => icl (day.getD q Hq.zero).pe)
 refine loop_st (X := Nat × Option Addr × Nat × (Nat → Option Addr) × (Nat → Nat)) (R0 := _) [0] H rfl (fun ⟨k, A9, c9, DA2, dc2⟩ => [(3, .slice A9 k c9), (4, .int .i64 (k : Int))]) (fun ⟨k, A9, c9, DA2, dc2⟩ => [ragM 3 1 (fun q => q < k) DA2 (fun q => (day.getD q Hq.zero).pe.length) dc2 (fun q => icl (day.getD q Hq.zero).pe), ownM 74 3 A9 k c9 (hcl day DA2 dc2)]) (fun g ⟨k, A9, c9, DA2, dc2⟩ => k ≤ day.length ∧ g + k = day.length) (day.length) (0, none, 0, fun _ => none, fun _ => 0) ?_ (S.sel [0, 1] rfl rfl) (H.keep [3, 4, 0] rfl) ?_
 · exact ⟨by omega, by omega⟩
 clear H S a
 intro g1 x1 a w1 hp S H K5 k5
 obtain ⟨k, A9, c9, DA2, dc2⟩ := x1
 dsimp only at hp S H
 refine wp_seq_k fun K6 k6 => ?_
 refine sS H fun K7 k7=>sr 2 rfl <| sL sl_65 rfl <| sr 1 rfl <| sE ?_;clear H a;intro a H
 refine k7 _ ?_;clear k7 K7
 refine condL H rfl (fun hc1 => ?_) (fun hc1 => ?_)
 ·skip
  have hdlk := hdl8 k (by omega)
  refine wp_skip ?_
  refine k6 _ _ ?_
  refine wp_seq_k fun K8 k8 => ?_
  refine wp_block ?_
  replace H := H.keep [0, 3, 4] rfl
  refine seq_list fun K9 k9 => ?_
  refine ls 4 H <| sr 2 rfl <| si sl_65 sz_74 rfl rfl (hday.adr (by omega)) (by omega) <| sd ((does_loadIn agg_74 sz_74 rfl S hday (by omega) (by omega))) <| sE ?_;clear H a;intro a H
  refine list_alloc H rfl S ze_74 ?_;clear H a S;intro b5 _ a hb5 hbw5 S H
  refine list_store H S (i := 0) rfl rfl rfl rfl sz_74 rfl rfl ?_
  clear H a S;intro _ a S H
  refine k9 _ _ ?_;clear k9 K9
  replace H := H.keep [0, 3, 4, 5] rfl
  refine seq_list fun K10 k10 => ?_
  refine list_build0 H rfl S sl_23 sz_3 (icl (day.getD k Hq.zero).pe) ?_;clear H a S;intro A1 _ a S H
  refine ls 2 H <| sf fo_74_2 rfl <| sl S 1 one_23 rfl rfl rfl <| sE ?_;clear H a;intro a H
  refine list_append H rfl S sl_23 sz_3 ze_3 by_3 rfl rfl (i := 0) rfl rfl rfl ((hdp k (by omega)).now S) (fun _ _ _ _ => rfl) (by omega) (by omega) ?_;clear H a S;intro A2 c2 _ a S H
  rw [Nat.zero_add] at H
  replace S := S.recell (i := 0) (n := (day.getD k Hq.zero).pe.length) (cell' := icl (day.getD k Hq.zero).pe) (by simp only [Nat.zero_add]; rfl) (fun k j hk hj => by unfold capp; rw [if_neg (by omega)]; rfl)
  obtain ⟨pA, rfl⟩ : ∃ y, y = A2 := ⟨_, rfl⟩
  obtain ⟨pC, rfl⟩ : ∃ y, y = c2 := ⟨_, rfl⟩
  refine ls 1 H <| sf fo_74_2 rfl <| sE ?_;clear H a;intro a H
  refine list_store H S (i := 1) rfl rfl rfl rfl sz_23 rfl rfl ?_
  clear H a S;intro _ a S H
  refine k10 _ _ ?_;clear k10 K10
  replace H := H.keep [0, 3, 4, 5] rfl
  refine one_list ?_
  refine ls 2 H <| sr 1 rfl <| sd ((does_loadBox agg_74 sz_74 rfl S (i := 1) rfl rfl)) <| sE ?_;clear H a;intro a H
  refine list_build' H rfl S sl_65 sz_74 ze_74 rfl rfl rfl rfl rfl rfl rfl rfl rfl ?_;clear H a S;intro A3 _ a hA3 S H
  refine list_append H rfl S sl_65 sz_74 ze_74 by_74 rfl rfl (i := 4) rfl rfl rfl (ownM.inS S (i := 0) rfl) (one_vs (three rfl rfl rfl)) (by omega) (by omega) ?_;clear H a S;intro A4 c4 _ a S H
  replace S := S.recell (i := 4) rfl (cell' := hcl day (upd DA2 k pA) (upd dc2 k pC)) (fun q j hq hj => hout_add rfl rfl rfl q j hq hj)
  replace S := hrag_add (S.sel [1, 3, 4] rfl rfl)
  refine ls 1 H <| sr 1 rfl <| sE ?_;clear H a;intro a H
  refine k8 _ _ ?_
  refine sO H <| sr 1 rfl <| sd (does_add rfl rfl (by unfold i64ok; omega)) <| sr 1 rfl <| sE ?_;clear H a;intro a H
  exact k5 (g1 - 1) (k + 1, _, _, _, _) a _ (by omega) (⟨by omega, by omega⟩) (S.sel [0, 1] rfl rfl) (H.keep [3, 4, 0] rfl)
 refine wp_exit ?_
 refine k3 _ _ ?_
 replace H := H.keep [3] rfl
 refine sS H fun K13 k13=>sr 2 rfl <| sE ?_;clear H a;intro a H
 refine k13 _ ?_;clear k13 K13
 refine wp_ret ?_
 refine ret1 (fn := Try.f41) rfl H rfl ?_
 obtain rfl : k = day.length := by omega
 exact ⟨_, _, _, _, rfl, (S.sel [0, 1] rfl rfl)⟩

end Go.Proofs.Ytlmddkekeoebcaa
