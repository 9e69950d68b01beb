/- WyK. Printed by gen.py. -/
import Derived.Test.YtopmadlgolnmfaaWyJ
import Derived.Test.YtopmadlgolnmfaaE5
import Derived.Test.YtopmadlgolnmfaaE1
namespace Go.Proofs.Ytopmadlgolnmfaa
open Go.RowKit
set_option linter.unusedVariables false
set_option linter.unusedSimpArgs false
set_option maxRecDepth 100000
set_option maxHeartbeats 4000000


theorem plOk_two {pl a b : Int} : plOk pl [a, b] = true ↔ (0 ≤ a ∧ a ≤ pl - 1) ∧ (0 ≤ b ∧ b ≤ pl - 1) := by
  unfold plOk
  rw [allN_iff]
  constructor
  · intro h
    have h0 := h 0 (show 0 < 2 by omega)
    have h1 := h 1 (show 1 < 2 by omega)
    exact ⟨of_decide_eq_true h0, of_decide_eq_true h1⟩
  · rintro ⟨h0, h1⟩ k hk
    match k, hk with
    | 0, _ => exact decide_eq_true h0
    | 1, _ => exact decide_eq_true h1
theorem plOk_two_f {pl a b : Int} (h : plOk pl [a, b] = false) : ¬ ((0 ≤ a ∧ a ≤ pl - 1) ∧ (0 ≤ b ∧ b ≤ pl - 1)) := fun h2 => by rw [plOk_two.2 h2] at h; cases h
section
variable {pl : Int} {ps : List Psg} {xs : List Int} {day : List Hq} {l : List Prm}
theorem keptE_st (h : stE pl ps xs ≠ 0) : keptE pl ps xs day l = stE pl ps xs := by
  have : dayE pl ps xs day = stE pl ps xs := by unfold dayE; rw [if_pos h]
  unfold keptE; rw [this, if_pos h]
theorem keptE_day (h : stE pl ps xs = 0) (hd : dayOk pl day = false) : keptE pl ps xs day l = 81 := by
  have : dayE pl ps xs day = 81 := by unfold dayE; rw [if_neg (by omega), if_neg (by rw [hd]; simp)]
  unfold keptE; rw [this]; rfl
theorem dayE_zero (h : stE pl ps xs = 0) (hd : dayOk pl day = true) : dayE pl ps xs day = 0 := by unfold dayE; rw [if_neg (by omega), if_pos hd]
theorem keptE_prs (h : dayE pl ps xs day = 0) (hd : prsOk pl l = false) : keptE pl ps xs day l = 82 := by unfold keptE; rw [if_neg (by omega), if_neg (by rw [hd]; simp)]
theorem keptE_zero (h : dayE pl ps xs day = 0) (hd : prsOk pl l = true) : keptE pl ps xs day l = 0 := by unfold keptE; rw [if_neg (by omega), if_pos hd]
theorem prs_many (h : ¬ l.length ≤ 40) : prsOk pl l = false := by unfold prsOk; rw [decide_eq_false h, Bool.and_false]
theorem prs_bad {k : Nat} (hk : k < l.length) (h : prmOk pl (l.getD k Prm.zero) = false) : prsOk pl l = false := by unfold prsOk; rw [allN_false hk h]; rfl
theorem prs_all (h : allN (fun k => prmOk pl (l.getD k Prm.zero)) l.length = true) (h2 : l.length ≤ 40) : prsOk pl l = true := by unfold prsOk; rw [h, decide_eq_true h2]; rfl
theorem prm_no {p : Prm} (h : ¬ (0 ≤ p.fr ∧ p.fr ≤ pl - 1 ∧ 0 ≤ p.to ∧ p.to ≤ pl - 1 ∧ 0 ≤ p.first ∧ p.first ≤ p.last ∧ p.last < 48)) : prmOk pl p = false := by unfold prmOk; exact decide_eq_false h
theorem broken_t {P : Nat} {h : Hq} {n : Nat} {p : Prm} (h1 : p.first ≤ (n : Int) ∧ (n : Int) ≤ p.last) (h2 : dst P ps h.out (h.help && p.helped) p.to.toNat p.fr.toNat < 0) : broken P ps h n p = true := by
  unfold broken; rw [decide_eq_true h1.1, decide_eq_true h1.2, decide_eq_true h2]; rfl
theorem broken_f1 {P : Nat} {h : Hq} {n : Nat} {p : Prm} (h1 : ¬ (p.first ≤ (n : Int) ∧ (n : Int) ≤ p.last)) : broken P ps h n p = false := by
  unfold broken
  by_cases h2 : p.first ≤ (n : Int)
  · rw [decide_eq_false (p := (n : Int) ≤ p.last) (by omega), Bool.and_false]; rfl
  · rw [decide_eq_false h2]; rfl
theorem broken_f2 {P : Nat} {h : Hq} {n : Nat} {p : Prm} (h2 : ¬ dst P ps h.out (h.help && p.helped) p.to.toNat p.fr.toNat < 0) : broken P ps h n p = false := by
  unfold broken; rw [decide_eq_false h2, Bool.and_false]
end


theorem ways_hours (pl : Int) (ps : List Psg) (PA : Option Addr) (pc : Nat) (xs : List Int) (XA : Option Addr) (xc : Nat) (day : List Hq) (HA : Option Addr) (hcp : Nat) (DA : Nat → Option Addr) (dc : Nat → Nat) (w : World) (hps : InS w noF 7 PA ps.length (pcell ps)) (hpn : ps.length ≤ 9223372036854775807) (hxs : InS w noF 1 XA xs.length (icl xs)) (hxn : xs.length ≤ 9223372036854775807) (hday : InS w noF 3 HA day.length (hcl day DA dc)) (hdn : day.length ≤ 9223372036854775807) (hdp : ∀ k, k < day.length → InS w noF 1 (DA k) (day.getD k Hq.zero).pe.length (icl (day.getD k Hq.zero).pe)) (hdl : ∀ k, k < day.length → (day.getD k Hq.zero).pe.length ≤ 9223372036854775807) :
    Calls Try.prog 41 [.agg [.int .i64 pl, .slice PA ps.length pc, .slice XA xs.length xc].toArray, .slice HA day.length hcp].toArray w (Ret (fun v w' => v = .bool (dayOk pl day) ∧ St w noF [] w')) := by
 refine enter Try.func41 rfl Try.ntmps41 rfl (fun a H => ?_)
 have S := St.start w
 refine seq_list fun K1 k1 => ?_
 refine list_box H rfl S rfl rfl ?_;clear H a S;intro b2 _ a hb2 hbw2 S H
 refine ls 1 H <| sr 1 rfl <| sE ?_;clear H a;intro a H
 refine k1 _ _ ?_;clear k1 K1
 refine wp_seq_k fun K2 k2 => ?_
 refine sS H fun K3 k3=>sr 1 rfl <| sL sl_40 rfl <| sr 1 rfl <| sE ?_;clear H a;intro a H
 refine k3 _ ?_;clear k3 K3
 refine wp_block ?_
 refine loop_st (X := Nat) (R0 := _) [1, 2, 7, 8] H rfl (fun k => [(9, .int .i64 (k : Int))]) (fun k => []) (fun g k => k ≤ day.length ∧ g + k = day.length ∧ allN (fun k => hqOk pl (day.getD k Hq.zero)) k = true) (day.length) 0 ?_ (S.sel [0] rfl rfl) (H.keep [9, 1, 2, 7, 8] rfl) ?_
 · exact ⟨by omega, by omega, rfl⟩
 clear H S a
 intro g1 x1 a w1 hp S H K4 k4
 obtain ⟨k, rfl⟩ : ∃ y, y = x1 := ⟨_, rfl⟩
 refine sS H fun K5 k5=>sr 1 rfl <| sE ?_;clear H a;intro a H
 refine k5 _ ?_;clear k5 K5
 refine wp_seq_k fun K6 k6 => ?_
 refine condL H rfl (fun hc1 => ?_) (fun hc1 => ?_)
 ·skip
  refine wp_skip ?_
  refine k6 _ _ ?_
  refine wp_seq_k fun K7 k7 => ?_
  refine wp_block ?_
  refine seq_list fun K8 k8 => ?_
  refine ls 2 H <| si sl_40 sz_42 rfl rfl (hday.adr (by omega)) (by omega) <| sd ((does_loadIn agg_42 sz_42 rfl S hday (by omega) (by omega))) <| sE ?_;clear H a;intro a H
  refine list_alloc H rfl S ze_42 ?_;clear H a S;intro b6 _ a hb6 hbw6 S H
  refine list_store H S (i := 0) rfl rfl rfl rfl sz_42 rfl rfl ?_
  clear H a S;intro _ a S H
  refine k8 _ _ ?_;clear k8 K8
  replace H := H.keep [1, 2, 6, 7, 8, 9] rfl
  refine seq_list fun K9 k9 => ?_
  refine ls 2 H <| sf fo_42_0 rfl <| sl S 0 one_3 rfl rfl rfl <| sE ?_;clear H a;intro a H
  refine list_call H rfl rfl Try.func42 rfl rfl (ways_within _ _ _ _) ?_;clear H a
  rintro _ _ a ⟨rfl, rfl⟩ H
  refine ls 2 H <| sr 2 rfl <| sE ?_;clear H a;intro a H
  apply list_guard (i := 4) (g := 17) (t := 22) (b := false) 5 H S rfl rfl (by kernel_rfl) (by kernel_rfl) rfl rfl
  case h1 =>
   intro hg5
   have hq5 := hg5; try simp only [o1,o2,o3,o4,o5,o6,o7,o8,o9,oa] at hq5
   refine ls 3 H <| sy hg5 <| sd ((does_loadBox agg_25 sz_25 rfl S (i := 1) rfl rfl)) <| sy hg5 <| sf fo_42_2 rfl <| sy hg5 <| sl S 0 one_23 rfl rfl rfl <| sE ?_;intro a H
   refine list_yes' H rfl rfl (by assumption) ?_
   refine list_call H rfl rfl Try.func66 rfl rfl (ways_crowd pl ps PA pc xs XA xc (day.getD k Hq.zero).pe (DA k) (dc k) _ ((hdp k (by omega)).now S) (hdl k (by omega))) ?_
   rintro _ _ a ⟨rfl, S2⟩ H
   replace S := S.call S2;clear S2
   refine ls 1 H <| sy hg5 <| sr 1 rfl <| sE ?_;intro a H
   exact wpList_nil ⟨H.strip 5 rfl rfl, (S.sel [0, 1] rfl rfl)⟩
  clear H a S;intro a _ H S
  refine ls 1 H <| so rfl rfl rfl <| sE ?_;clear H a;intro a H
  refine k9 _ _ ?_;clear k9 K9
  refine cond_ H rfl (fun hc2 => ?_) (fun hc2 => ?_)
  ·skip
   try simp only [o1,o2,o3,o4,o5,o6,o7,o8,o9,oa] at hc2
   replace H := H.keep [] rfl
   refine sS H fun K10 k10=>sr 1 rfl <| sE ?_;clear H a;intro a H
   refine k10 _ ?_;clear k10 K10
   refine wp_ret ?_
   refine ret1 (fn := Try.f41) rfl H rfl ?_
   exact ⟨congrArg Value.bool (hqOk_not (k := k) (by omega) (by unfold hqOk; rcases hc2 with h | h; (rw [decide_eq_false (by omega)]; rfl); (rw [h, Bool.and_false]))).symm, (S.sel [] rfl rfl)⟩
  try simp only [o1,o2,o3,o4,o5,o6,o7,o8,o9,oa] at hc2
  refine wp_skip ?_
  refine k7 _ _ ?_
  refine sO H <| sd (does_add rfl rfl (by unfold i64ok; omega)) <| sr 1 rfl <| sE ?_;clear H a;intro a H
  exact k4 (g1 - 1) (k + 1) a _ (by omega) (⟨by omega, by omega, allN_step hp.2.2 (by unfold hqOk; rw [decide_eq_true (by omega), hc2.2]; rfl)⟩) (S.sel [1] rfl rfl) (H.keep [9, 1, 2, 7, 8] rfl)
 refine wp_exit ?_
 refine k2 _ _ ?_
 refine sS H fun K12 k12=>sr 1 rfl <| sL sl_40 rfl <| sr 2 rfl <| sE ?_;clear H a;intro a H
 refine k12 _ ?_;clear k12 K12
 refine wp_ret ?_
 refine ret1 (fn := Try.f41) rfl H rfl ?_
 obtain rfl : k = day.length := by omega
 refine ⟨congrArg Value.bool ?_, (S.sel [] rfl rfl)⟩
 rw [dayOk_of hp.2.2]
 exact decide_eq_decide.2 (by omega)

theorem ways_Kept (pl : Int) (ps : List Psg) (PA : Option Addr) (pc : Nat) (xs : List Int) (XA : Option Addr) (xc : Nat) (day : List Hq) (HA : Option Addr) (hcp : Nat) (DA : Nat → Option Addr) (dc : Nat → Nat) (l : List Prm) (LA : Option Addr) (lc : Nat) (w : World) (hps : InS w noF 7 PA ps.length (pcell ps)) (hpn : ps.length ≤ 9223372036854775807) (hxs : InS w noF 1 XA xs.length (icl xs)) (hxn : xs.length ≤ 9223372036854775807) (hday : InS w noF 3 HA day.length (hcl day DA dc)) (hdn : day.length ≤ 9223372036854775807) (hdp : ∀ k, k < day.length → InS w noF 1 (DA k) (day.getD k Hq.zero).pe.length (icl (day.getD k Hq.zero).pe)) (hdl : ∀ k, k < day.length → (day.getD k Hq.zero).pe.length ≤ 9223372036854775807) (hl : InS w noF 5 LA l.length (prcell l)) (hln : l.length ≤ 9223372036854775807) :
    Calls Try.prog 15 [.agg [.int .i64 pl, .slice PA ps.length pc, .slice XA xs.length xc].toArray, .slice HA day.length hcp, .slice LA l.length lc].toArray w (Ret (fun u w' => u = .tuple #[.int .i64 (keptV pl ps xs day l).1, .int .i64 (keptV pl ps xs day l).2.1, .bool (keptV pl ps xs day l).2.2.1, .int .i64 (keptV pl ps xs day l).2.2.2] ∧ St w noF [] w')) := by
 refine enter Try.func15 rfl Try.ntmps15 rfl (fun a H => ?_)
 have S := St.start w
 refine seq_list fun K1 k1 => ?_
 refine list_box H rfl S rfl rfl ?_;clear H a S;intro b3 _ a hb3 hbw3 S H
 refine ls 4 H <| sr 4 rfl <| sE ?_;clear H a;intro a H
 refine k1 _ _ ?_;clear k1 K1
 refine wp_seq_k fun K2 k2 => ?_
 refine seq_list fun K3 k3 => ?_
 refine ls 1 H <| sd ((does_loadBox agg_25 sz_25 rfl S (i := 0) rfl rfl)) <| sE ?_;clear H a;intro a H
 refine list_call H rfl rfl Try.func40 rfl rfl (ways_Check pl ps PA pc xs XA xc _ (hps.now S) hpn (hxs.now S) hxn) ?_;clear H a
 rintro _ _ a ⟨rfl, S2⟩ H
 replace S := S.call S2;clear S2
 refine ls 1 H <| sr 1 rfl <| sE ?_;clear H a;intro a H
 refine k3 _ _ ?_;clear k3 K3
 replace H := H.keep [1, 2, 3, 9] rfl
 refine sS H fun K4 k4=>sr 2 rfl <| sE ?_;clear H a;intro a H
 refine k4 _ ?_;clear k4 K4
 refine condN H rfl (fun hc1 => ?_) (fun hc1 => ?_)
 ·skip
  refine sS H fun K5 k5=>sr 5 rfl <| sE ?_;clear H a;intro a H
  refine k5 _ ?_;clear k5 K5
  refine wp_ret ?_
  refine ret4 (fn := Try.f15) rfl H rfl rfl rfl rfl ?_
  rw [kept_err (by rw [keptE_st hc1]; exact hc1), keptE_st hc1]
  exact ⟨rfl, (S.sel [] rfl rfl)⟩
 have hst : stE pl ps xs = 0 := by omega
 have hV0 := st_valid hst
 obtain ⟨P, rfl⟩ : ∃ P : Nat, pl = P := ⟨pl.toNat, by have := hV0.size; omega⟩
 have hV := hV0
 have hP10 := hV.size
 refine wp_skip ?_
 refine k2 _ _ ?_
 refine wp_seq_k fun K6 k6 => ?_
 replace H := H.keep [1, 2, 3] rfl
 refine seq_list fun K7 k7 => ?_
 refine ls 2 H <| sd ((does_loadBox agg_25 sz_25 rfl S (i := 0) rfl rfl)) <| sr 1 rfl <| sE ?_;clear H a;intro a H
 refine list_call H rfl rfl Try.func41 rfl rfl (ways_hours P ps PA pc xs XA xc day HA hcp DA dc _ (hps.now S) hpn (hxs.now S) hxn (hday.now S) hdn (fun k hk => (hdp k hk).now S) hdl) ?_;clear H a
 rintro _ _ a ⟨rfl, S2⟩ H
 replace S := S.call S2;clear S2
 refine ls 1 H <| sr 1 rfl <| sE ?_;clear H a;intro a H
 refine k7 _ _ ?_;clear k7 K7
 refine cond_ H rfl (fun hc2 => ?_) (fun hc2 => ?_)
 ·skip
  try simp only [o1,o2,o3,o4,o5,o6,o7,o8,o9,oa] at hc2
  refine sS H fun K8 k8=>sr 4 rfl <| sE ?_;clear H a;intro a H
  refine k8 _ ?_;clear k8 K8
  refine wp_ret ?_
  refine ret4 (fn := Try.f15) rfl H rfl rfl rfl rfl ?_
  rw [kept_err (by rw [keptE_day hst hc2]; decide), keptE_day hst hc2]
  exact ⟨rfl, (S.sel [] rfl rfl)⟩
 try simp only [o1,o2,o3,o4,o5,o6,o7,o8,o9,oa] at hc2
 have hdE := dayE_zero hst hc2
 have hdk := dayOk_ok hc2
 refine wp_skip ?_
 refine k6 _ _ ?_
 refine wp_seq_k fun K9 k9 => ?_
 replace H := H.keep [1, 2, 3] rfl
 refine sS H fun K10 k10=>sr 1 rfl <| sL sl_26 rfl <| sr 1 rfl <| sE ?_;clear H a;intro a H
 refine k10 _ ?_;clear k10 K10
 refine condL H rfl (fun hc3 => ?_) (fun hc3 => ?_)
 ·skip
  refine sS H fun K11 k11=>sr 4 rfl <| sE ?_;clear H a;intro a H
  refine k11 _ ?_;clear k11 K11
  refine wp_ret ?_
  refine ret4 (fn := Try.f15) rfl H rfl rfl rfl rfl ?_
  have e9 := keptE_prs hdE (prs_many (l := l) (by omega))
  rw [kept_err (by rw [e9]; decide), e9]
  exact ⟨rfl, (S.sel [] rfl rfl)⟩
 refine wp_skip ?_
 refine k9 _ _ ?_
 refine wp_seq_k fun K12 k12 => ?_
 replace H := H.keep [1, 2, 3] rfl
 refine sS H fun K13 k13=>sr 1 rfl <| sL sl_26 rfl <| sr 1 rfl <| sE ?_;clear H a;intro a H
 refine k13 _ ?_;clear k13 K13
 refine wp_block ?_
 refine loop_st (X := Nat) (R0 := _) [1, 2, 3, 28, 29] H rfl (fun k => [(30, .int .i64 (k : Int))]) (fun k => []) (fun g k => k ≤ l.length ∧ g + k = l.length ∧ allN (fun k => prmOk P (l.getD k Prm.zero)) k = true) (l.length) 0 ?_ (S.sel [0] rfl rfl) (H.keep [30, 1, 2, 3, 28, 29] rfl) ?_
 · exact ⟨by omega, by omega, rfl⟩
 clear H S a
 intro g1 x1 a w1 hp S H K14 k14
 obtain ⟨k, rfl⟩ : ∃ y, y = x1 := ⟨_, rfl⟩
 refine sS H fun K15 k15=>sr 1 rfl <| sE ?_;clear H a;intro a H
 refine k15 _ ?_;clear k15 K15
 refine wp_seq_k fun K16 k16 => ?_
 refine condL H rfl (fun hc4 => ?_) (fun hc4 => ?_)
 ·skip
  refine wp_skip ?_
  refine k16 _ _ ?_
  refine wp_seq_k fun K17 k17 => ?_
  refine wp_block ?_
  refine seq_list fun K18 k18 => ?_
  refine ls 2 H <| si sl_26 sz_95 rfl rfl (hl.adr (by omega)) (by omega) <| sd ((does_loadIn agg_95 sz_95 rfl S hl (by omega) (by omega))) <| sE ?_;clear H a;intro a H
  refine list_alloc H rfl S ze_95 ?_;clear H a S;intro b11 _ a hb11 hbw11 S H
  refine list_store H S (i := 0) rfl rfl rfl rfl sz_95 rfl rfl ?_
  clear H a S;intro _ a S H
  refine k18 _ _ ?_;clear k18 K18
  replace H := H.keep [1, 2, 3, 11, 28, 29, 30] rfl
  refine seq_list fun K19 k19 => ?_
  refine ls 5 H <| sd ((does_loadBox agg_25 sz_25 rfl S (i := 1) rfl rfl)) <| sf fo_95_0 rfl <| sl S 0 one_3 rfl rfl rfl <| sf fo_95_1 rfl <| sl S 0 one_3 rfl rfl rfl <| sE ?_;clear H a;intro a H
  refine list_build' H rfl S sl_23 sz_3 ze_3 rfl rfl rfl rfl rfl rfl rfl rfl rfl ?_;clear H a S;intro A1 _ a hA1 S H
  refine list_call H rfl rfl Try.func44 rfl rfl (ways_place P ps PA pc xs XA xc [(l.getD k Prm.zero).fr, (l.getD k Prm.zero).to] _ _ _ ((ownM.inS S (i := 0) rfl).congr (fun k j hk hj => two_cells k j hk hj)) (show 2 ≤ 9223372036854775807 by omega) (by omega)) ?_;clear H a
  rintro _ _ a ⟨rfl, S2⟩ H
  replace S := S.call S2;clear S2
  refine ls 18 H <| sr 2 rfl <| sg 3 8 42 45 false rfl rfl (fun hg9 => by
      have hq9 := hg9;try simp only [o1,o2,o3,o4,o5,o6,o7,o8,o9,oa] at hq9
      exact sy hg9 <| sf fo_95_2 rfl <| sy hg9 <| sl S 1 one_3 rfl rfl rfl <| sy hg9 <| sr 1 rfl <| sz 3 rfl rfl rfl) <| so rfl rfl rfl <| sr 1 rfl <| sg 5 13 47 52 false rfl rfl (fun hg14 => by
      have hq14 := hg14;try simp only [o1,o2,o3,o4,o5,o6,o7,o8,o9,oa] at hq14
      exact sy hg14 <| sf fo_95_3 rfl <| sy hg14 <| sl S 1 one_3 rfl rfl rfl <| sy hg14 <| sf fo_95_2 rfl <| sy hg14 <| sl S 1 one_3 rfl rfl rfl <| sy hg14 <| sr 1 rfl <| sz 5 rfl rfl rfl) <| so rfl rfl rfl <| sr 1 rfl <| sg 3 20 54 57 false rfl rfl (fun hg21 => by
      have hq21 := hg21;try simp only [o1,o2,o3,o4,o5,o6,o7,o8,o9,oa] at hq21
      exact sy hg21 <| sf fo_95_3 rfl <| sy hg21 <| sl S 1 one_3 rfl rfl rfl <| sy hg21 <| sr 1 rfl <| sz 3 rfl rfl rfl) <| so rfl rfl rfl <| sE ?_;clear H a;intro a H
  refine k19 _ _ ?_;clear k19 K19
  refine cond_ H rfl (fun hc5 => ?_) (fun hc5 => ?_)
  ·skip
   try simp only [o1,o2,o3,o4,o5,o6,o7,o8,o9,oa] at hc5
   replace H := H.keep [] rfl
   refine sS H fun K20 k20=>sr 4 rfl <| sE ?_;clear H a;intro a H
   refine k20 _ ?_;clear k20 K20
   refine wp_ret ?_
   refine ret4 (fn := Try.f15) rfl H rfl rfl rfl rfl ?_
   have e9 := keptE_prs hdE (prs_bad (l := l) (k := k) (by omega) (prm_no (by rcases hc5 with ((h | h) | h) | h; (have := plOk_two_f h; omega); omega; omega; omega)))
   rw [kept_err (by rw [e9]; decide), e9]
   exact ⟨rfl, (S.sel [] rfl rfl)⟩
  try simp only [o1,o2,o3,o4,o5,o6,o7,o8,o9,oa] at hc5
  refine wp_skip ?_
  refine k17 _ _ ?_
  refine sO H <| sd (does_add rfl rfl (by unfold i64ok; omega)) <| sr 1 rfl <| sE ?_;clear H a;intro a H
  exact k14 (g1 - 1) (k + 1) a _ (by omega) (⟨by omega, by omega, allN_step hp.2.2 (prmOk_iff.2 (by have h9 := plOk_two.1 hc5.1.1.1; omega))⟩) (S.sel [2] rfl rfl) (H.keep [30, 1, 2, 3, 28, 29] rfl)
 refine wp_exit ?_
 refine k12 _ _ ?_
 refine wp_seq_k fun K22 k22 => ?_
 refine sS H fun K23 k23=>sr 1 rfl <| sL sl_40 rfl <| sr 1 rfl <| sE ?_;clear H a;intro a H
 refine k23 _ ?_;clear k23 K23
 refine wp_block ?_
 have hpr : allN (fun k => prmOk P (l.getD k Prm.zero)) l.length = true := by rw [show l.length = k by omega]; exact hp.2.2
 have hkE := keptE_zero hdE (prs_all hpr (by omega))
 refine loop_st (X := Nat) (R0 := _) [2, 3, 60, 61] H rfl (fun h => [(62, .int .i64 (h : Int))]) (fun h => []) (fun g h => h ≤ day.length ∧ g + h = day.length ∧ ∀ q, q < h → ∀ j, j < l.length → broken P ps (day.getD q Hq.zero) q (l.getD j Prm.zero) = false) (day.length) 0 ?_ (S.sel [0] rfl rfl) (H.keep [62, 2, 3, 60, 61] rfl) ?_
 · exact ⟨by omega, by omega, fun q hq => absurd hq (Nat.not_lt_zero q)⟩
 clear H S a
 intro g2 x2 a w2 hp S H K24 k24
 obtain ⟨h, rfl⟩ : ∃ y, y = x2 := ⟨_, rfl⟩
 obtain ⟨hhl, hgh, hB⟩ := hp
 refine sS H fun K25 k25=>sr 1 rfl <| sE ?_;clear H a;intro a H
 refine k25 _ ?_;clear k25 K25
 refine wp_seq_k fun K26 k26 => ?_
 refine condL H rfl (fun hc6 => ?_) (fun hc6 => ?_)
 ·skip
  have hdo := hdk.2 h (by omega)
  refine wp_skip ?_
  refine k26 _ _ ?_
  refine wp_seq_k fun K27 k27 => ?_
  refine wp_block ?_
  refine seq_list fun K28 k28 => ?_
  refine ls 3 H <| sr 1 rfl <| si sl_40 sz_42 rfl rfl (hday.adr (by omega)) (by omega) <| sd ((does_loadIn agg_42 sz_42 rfl S hday (by omega) (by omega))) <| sE ?_;clear H a;intro a H
  refine list_alloc H rfl S ze_42 ?_;clear H a S;intro b13 _ a hb13 hbw13 S H
  refine ls 1 H <| sr 1 rfl <| sE ?_;clear H a;intro a H
  refine list_store H S (i := 0) rfl rfl rfl rfl sz_42 rfl rfl ?_
  clear H a S;intro _ a S H
  refine k28 _ _ ?_;clear k28 K28
  replace H := H.keep [2, 3, 12, 13, 60, 61, 62] rfl
  refine sS H fun K29 k29=>sr 1 rfl <| sL sl_26 rfl <| sr 1 rfl <| sE ?_;clear H a;intro a H
  refine k29 _ ?_;clear k29 K29
  refine wp_block ?_
  refine loop_st (X := Nat) (R0 := _) [2, 3, 12, 13, 60, 61, 62, 67, 68] H rfl (fun i => [(69, .int .i64 (i : Int))]) (fun i => []) (fun g i => i ≤ l.length ∧ g + i = l.length ∧ ∀ j, j < i → broken P ps (day.getD h Hq.zero) h (l.getD j Prm.zero) = false) (l.length) 0 ?_ (S.sel [0, 1] rfl rfl) (H.keep [69, 2, 3, 12, 13, 60, 61, 62, 67, 68] rfl) ?_
  · exact ⟨by omega, by omega, fun q hq => absurd hq (Nat.not_lt_zero q)⟩
  clear H S a
  intro g3 x3 a w3 hp S H K30 k30
  obtain ⟨i, rfl⟩ : ∃ y, y = x3 := ⟨_, rfl⟩
  refine sS H fun K31 k31=>sr 1 rfl <| sE ?_;clear H a;intro a H
  refine k31 _ ?_;clear k31 K31
  refine wp_seq_k fun K32 k32 => ?_
  refine condL H rfl (fun hc7 => ?_) (fun hc7 => ?_)
  ·skip
   have hpi := prmOk_iff.1 (allN_iff.1 hpr i (by omega))
   refine wp_skip ?_
   refine k32 _ _ ?_
   refine wp_seq_k fun K33 k33 => ?_
   refine wp_block ?_
   refine seq_list fun K34 k34 => ?_
   refine ls 3 H <| sr 1 rfl <| si sl_26 sz_95 rfl rfl (hl.adr (by omega)) (by omega) <| sd ((does_loadIn agg_95 sz_95 rfl S hl (by omega) (by omega))) <| sE ?_;clear H a;intro a H
   refine list_alloc H rfl S ze_95 ?_;clear H a S;intro b15 _ a hb15 hbw15 S H
   refine ls 1 H <| sr 1 rfl <| sE ?_;clear H a;intro a H
   refine list_store H S (i := 0) rfl rfl rfl rfl sz_95 rfl rfl ?_
   clear H a S;intro _ a S H
   refine k34 _ _ ?_;clear k34 K34
   replace H := H.keep [2, 3, 12, 13, 14, 15, 60, 61, 62, 67, 68, 69] rfl
   refine seq_list fun K35 k35 => ?_
   refine ls 5 H <| sr 1 rfl <| sf fo_95_2 rfl <| sl S 0 one_3 rfl rfl rfl <| sf fo_95_3 rfl <| sl S 0 one_3 rfl rfl rfl <| sE ?_;clear H a;intro a H
   refine list_call H rfl rfl Try.func42 rfl rfl (ways_within _ _ _ _) ?_;clear H a
   rintro _ _ a ⟨rfl, rfl⟩ H
   refine ls 1 H <| sr 1 rfl <| sE ?_;clear H a;intro a H
   apply list_guard (i := 6) (g := 80) (t := 96) (b := true) 16 H S rfl rfl (by kernel_rfl) (by kernel_rfl) rfl rfl
   case h1 =>
    intro hg7
    have hq7 := hg7; try simp only [o1,o2,o3,o4,o5,o6,o7,o8,o9,oa] at hq7
    refine ls 14 H <| sy hg7 <| sd ((does_loadBox agg_25 sz_25 rfl S (i := 2) rfl rfl)) <| sy hg7 <| sf fo_42_0 rfl <| sy hg7 <| sl S 1 one_3 rfl rfl rfl <| sy hg7 <| sf fo_42_1 rfl <| sy hg7 <| sl S 1 one_4 rfl rfl rfl <| sy hg7 <| sr 1 rfl <| sg 2 12 86 88 true rfl rfl (fun hg13 => by
        have hq13 := hg13;try simp only [o1,o2,o3,o4,o5,o6,o7,o8,o9,oa] at hq13
        exact sy hg13 <| sf fo_95_4 rfl <| sy hg13 <| sl S 0 one_4 rfl rfl rfl <| sz 2 rfl rfl rfl) <| sy hg7 <| sa rfl rfl rfl <| sy hg7 <| sd (does_build bt_98 rfl rfl) <| sy hg7 <| sf fo_95_0 rfl <| sy hg7 <| sl S 0 one_3 rfl rfl rfl <| sy hg7 <| sf fo_95_1 rfl <| sy hg7 <| sl S 0 one_3 rfl rfl rfl <| sE ?_;intro a H
    refine list_yes' H rfl rfl (by assumption) ?_
    refine list_call H rfl rfl Try.func45 rfl rfl (level_joined P ps PA pc xs XA xc (day.getD h Hq.zero).out ((day.getD h Hq.zero).help && (l.getD i Prm.zero).helped) (l.getD i Prm.zero).fr (l.getD i Prm.zero).to _ (hps.now S) hpn (hxs.now S) hxn hV hdo.1.1 (by omega) (by omega)) ?_
    rintro _ _ a ⟨rfl, hdj, S2⟩ H
    replace S := S.call S2;clear S2
    refine ls 1 H <| sy hg7 <| sr 1 rfl <| sE ?_;intro a H
    exact wpList_nil ⟨H.strip 15 rfl rfl, (S.sel [0, 1, 2] rfl rfl)⟩
   clear H a S;intro a _ H S
   refine ls 1 H <| sa rfl rfl rfl <| sE ?_;clear H a;intro a H
   refine k35 _ _ ?_;clear k35 K35
   refine cond_ H rfl (fun hc8 => ?_) (fun hc8 => ?_)
   ·skip
    try simp only [o1,o2,o3,o4,o5,o6,o7,o8,o9,oa] at hc8
    replace H := H.keep [12, 14] rfl
    refine sS H fun K36 k36=>sr 6 rfl <| sE ?_;clear H a;intro a H
    refine k36 _ ?_;clear k36 K36
    refine wp_ret ?_
    refine ret4 (fn := Try.f15) rfl H rfl rfl rfl rfl ?_
    rw [kept_at hkE (by omega) (by omega) hB hp.2.2 (broken_t hc8.1 (by omega))]
    exact ⟨rfl, (S.sel [] rfl rfl)⟩
   try simp only [o1,o2,o3,o4,o5,o6,o7,o8,o9,oa] at hc8
   refine wp_skip ?_
   refine k33 _ _ ?_
   refine sO H <| sd (does_add rfl rfl (by unfold i64ok; omega)) <| sr 1 rfl <| sE ?_;clear H a;intro a H
   exact k30 (g3 - 1) (i + 1) a _ (by omega) (⟨by omega, by omega, no_next hp.2.2 (by rcases hc8 with h9 | h9; exact broken_f1 (by omega); exact broken_f2 (by omega))⟩) (S.sel [1, 2] rfl rfl) (H.keep [69, 2, 3, 12, 13, 60, 61, 62, 67, 68] rfl)
  refine wp_exit ?_
  refine k27 _ _ ?_
  replace H := H.keep [2, 3, 60, 61, 62] rfl
  refine sO H <| sd (does_add rfl rfl (by unfold i64ok; omega)) <| sr 1 rfl <| sE ?_;clear H a;intro a H
  exact k24 (g2 - 1) (h + 1) a _ (by omega) (⟨by omega, by omega, broke_row hB hp.2.2 (by omega)⟩) (S.sel [1] rfl rfl) (H.keep [62, 2, 3, 60, 61] rfl)
 refine wp_exit ?_
 refine k22 _ _ ?_
 refine sS H fun K39 k39=>sr 4 rfl <| sE ?_;clear H a;intro a H
 refine k39 _ ?_;clear k39 K39
 refine wp_ret ?_
 refine ret4 (fn := Try.f15) rfl H rfl rfl rfl rfl ?_
 obtain rfl : h = day.length := by omega
 rw [kept_all hkE hB]
 exact ⟨rfl, (S.sel [] rfl rfl)⟩

end Go.Proofs.Ytopmadlgolnmfaa
