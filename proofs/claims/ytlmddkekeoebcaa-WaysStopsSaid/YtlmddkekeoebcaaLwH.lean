/- LwH. Printed by gen.py. -/
import Derived.Test.YtlmddkekeoebcaaLwG
import Derived.Test.YtlmddkekeoebcaaWyM
import Derived.Test.YtlmddkekeoebcaaRfD
import Derived.Test.YtlmddkekeoebcaaRwC
namespace Go.Proofs.Ytlmddkekeoebcaa
open Go.RowKit
set_option linter.unusedVariables false
set_option linter.unusedSimpArgs false
set_option maxRecDepth 100000
set_option maxHeartbeats 4000000


theorem bit01 {x : Int} (h : ¬ x % 2 = 1) : x % 2 = 0 := by omega
theorem must_ex {P T : Nat} {ps : List Psg} {xs : List Int} {out : Int} {pe : List Int} (h : leaveE P ps xs out pe T = 0) : ∃ (mu : List Nat) (me : Int), mustV P ps xs out pe T = (toI mu, me) ∧ mu.length ≤ 288 ∧ (me = 0 ∧ mfv P T pe xs (hds out xs ps) = sumI pe pe.length ∧ mu = mustL P T ps xs out pe ∨ me = 3 ∧ ¬ mfv P T pe xs (hds out xs ps) = sumI pe pe.length ∧ mu = []) := by
  have hl : (mustL P T ps xs out pe).length ≤ 288 := by
    have h1 := machL_len (ps := ps) (out := out) (kind := 3) (st_valid (leaveE_ok h).1).size.2.2 12
    exact Nat.le_trans (List.length_filter_le ..) h1
  by_cases ha : mfv P T pe xs (hds out xs ps) = sumI pe pe.length
  · exact ⟨_, 0, must_some h ha, hl, .inl ⟨rfl, ha, rfl⟩⟩
  · exact ⟨[], 3, must_none h ha, Nat.zero_le _, .inr ⟨rfl, ha, rfl⟩⟩
theorem stop_ok {P T : Nat} {ps : List Psg} {xs : List Int} {out : Int} {pe : List Int} {mu : List Nat} {me : Int} (h : me = 0 ∧ mfv P T pe xs (hds out xs ps) = sumI pe pe.length ∧ mu = mustL P T ps xs out pe ∨ me = 3 ∧ ¬ mfv P T pe xs (hds out xs ps) = sumI pe pe.length ∧ mu = []) : (!(decide (me = 0) == decide (mfv P T pe xs (hds out xs ps) = sumI pe pe.length))) = false := by
  rcases h with ⟨h1, h2, _⟩ | ⟨h1, h2, _⟩
  · rw [decide_eq_true h1, decide_eq_true h2]; rfl
  · rw [decide_eq_false (p := me = 0) (by omega), decide_eq_false h2]; rfl
section
variable {mu : List Nat} {x : Int} {k : Nat}
theorem nm_t (h : true = true ↔ ∃ j, j < k ∧ ((mu.getD j 0 : Nat) : Int) = x) : true = true ↔ ∃ j, j < k + 1 ∧ ((mu.getD j 0 : Nat) : Int) = x := by
  refine ⟨fun _ => ?_, fun _ => rfl⟩
  obtain ⟨j, h1, h2⟩ := h.1 rfl
  exact ⟨j, by omega, h2⟩
theorem nm_f (h : false = true ↔ ∃ j, j < k ∧ ((mu.getD j 0 : Nat) : Int) = x) : decide (((mu.getD k 0 : Nat) : Int) = x) = true ↔ ∃ j, j < k + 1 ∧ ((mu.getD j 0 : Nat) : Int) = x := by
  rw [decide_eq_true_eq]
  constructor
  · intro h1; exact ⟨k, by omega, h1⟩
  · rintro ⟨j, h1, h2⟩
    by_cases e : j = k
    · subst e; exact h2
    · exact absurd (h.2 ⟨j, by omega, h2⟩) (by simp)
end
theorem stop_nm {P T i : Nat} {ps : List Psg} {xs : List Int} {out : Int} {pe : List Int} {mu : List Nat} {nb : Bool} (V : StV P ps xs) (hi : i < ps.length) (hmu : mu = mustL P T ps xs out pe) (hk : (ps.getD i Psg.zero).kind = 3) (hb : ¬ out / 2 ^ (ps.getD i Psg.zero).mach.toNat % 2 = 1)
    (hn : nb = true ↔ ∃ j, j < mu.length ∧ ((mu.getD j 0 : Nat) : Int) = (ps.getD i Psg.zero).mach) : (decide (mfv P T pe xs (hds (out + 1 * 2 ^ (ps.getD i Psg.zero).mach.toNat) xs ps) = sumI pe pe.length) == nb) = false := by
  have hmm : 0 ≤ (ps.getD i Psg.zero).mach ∧ (ps.getD i Psg.zero).mach ≤ 11 := mov_mach V hi hk
  have h1 : nb = true ↔ ¬ mfv P T pe xs (hds (out + 1 * 2 ^ (ps.getD i Psg.zero).mach.toNat) xs ps) = sumI pe pe.length := by
    rw [hn, Int.one_mul]
    have h2 : (ps.getD i Psg.zero).mach.toNat ∈ mustL P T ps xs out pe ↔ ¬ mfv P T pe xs (hds (out + 2 ^ (ps.getD i Psg.zero).mach.toNat) xs ps) = sumI pe pe.length := by
      unfold mustL
      rw [List.mem_filter, machL_mem]
      have h3 : mustB P T ps xs out pe (ps.getD i Psg.zero).mach.toNat = true ↔ ¬ mfv P T pe xs (hds (out + 2 ^ (ps.getD i Psg.zero).mach.toNat) xs ps) = sumI pe pe.length := by
        unfold mustB allB
        rw [Bool.not_eq_true', decide_eq_false_iff_not]
      rw [h3]
      refine ⟨fun h => h.2, fun h => ⟨⟨by omega, i, hi, machB_iff.2 ⟨⟨hk, ?_⟩, bit01 hb⟩⟩, h⟩⟩
      unfold machAt
      omega
    rw [← h2, ← hmu]
    constructor
    · rintro ⟨j, h4, h5⟩
      have h6 := getD_in h4
      rw [show (ps.getD i Psg.zero).mach.toNat = mu.getD j 0 by omega]
      exact h6
    · intro h4
      obtain ⟨j, h5, h6⟩ := List.getElem_of_mem h4
      refine ⟨j, h5, ?_⟩
      rw [List.getD_eq_getElem?_getD, List.getElem?_eq_getElem h5, Option.getD_some, h6]
      omega
  cases nb with
  | true => rw [decide_eq_false (h1.1 rfl)]; rfl
  | false =>
    have h7 : mfv P T pe xs (hds (out + 1 * 2 ^ (ps.getD i Psg.zero).mach.toNat) xs ps) = sumI pe pe.length := by
      by_cases h8 : mfv P T pe xs (hds (out + 1 * 2 ^ (ps.getD i Psg.zero).mach.toNat) xs ps) = sumI pe pe.length
      · exact h8
      · exact absurd (h1.2 h8) (by simp)
    rw [decide_eq_true h7]; rfl


theorem law_WaysStops (pl : Int) (ps : List Psg) (PA : Option Addr) (pc : Nat) (xs : List Int) (XA : Option Addr) (xc : Nat) (out : Int) (pe : List Int) (BA : Option Addr) (bc : Nat) (T0 : Int) (w : World) (hps : InS w noF 7 PA ps.length (pcell ps)) (hpn8 : 56 * ps.length ≤ 140737488355328) (hxs : InS w noF 1 XA xs.length (icl xs)) (hxn8 : 8 * xs.length ≤ 140737488355328) (hpe : InS w noF 1 BA pe.length (icl pe)) (hpe8 : 8 * pe.length ≤ 140737488355328) :
    Calls Try.prog 13 [.agg [.int .i64 pl, .slice PA ps.length pc, .slice XA xs.length xc].toArray, .agg [.int .i64 out, .slice BA pe.length bc, .int .i64 T0].toArray].toArray w (Ret (fun u w' => u = .bool true ∧ St w noF [] w')) := by
 have hpn : ps.length ≤ 9223372036854775807 := by omega
 have hxn : xs.length ≤ 9223372036854775807 := by omega
 have hpen : pe.length ≤ 9223372036854775807 := by omega
 refine enter Try.func13 rfl Try.ntmps13 rfl (fun a H => ?_)
 have S := St.start w
 refine seq_list fun K1 k1 => ?_
 refine list_box H rfl S rfl rfl ?_;clear H a S;intro b2 _ a hb2 hbw2 S H
 refine list_box H rfl S rfl rfl ?_;clear H a S;intro b3 _ a hb3 hbw3 S H
 refine ls 1 H <| sr 1 rfl <| sE ?_;clear H a;intro a H
 refine k1 _ _ ?_;clear k1 K1
 refine wp_seq_k fun K2 k2 => ?_
 replace H := H.keep [2, 3] rfl
 refine seq_list fun K3 k3 => ?_
 refine ls 5 H <| sd ((does_loadBox agg_25 sz_25 rfl S (i := 1) rfl rfl)) <| sf fo_48_1 rfl <| sl S 0 one_23 rfl rfl rfl <| sf fo_48_2 rfl <| sl S 0 one_3 rfl rfl rfl <| sE ?_;clear H a;intro a H
 refine list_call H rfl rfl Try.func28 rfl rfl (law_Crowded pl ps PA pc xs XA xc pe BA bc T0 _ (hps.now S) hpn (hxs.now S) hxn (hpe.now S) hpen) ?_;clear H a
 rintro _ _ a ⟨cb, rfl, hcb, S2⟩ H
 replace S := S.call S2;clear S2
 refine ls 1 H <| sr 1 rfl <| sE ?_;clear H a;intro a H
 apply list_guard (i := 6) (g := 23) (t := 32) (b := false) 9 H S rfl rfl (by kernel_rfl) (by kernel_rfl) rfl rfl
 case h1 =>
  intro hg7
  have hq7 := hg7; try simp only [o1,o2,o3,o4,o5,o6,o7,o8,o9,oa] at hq7
  refine ls 7 H <| sy hg7 <| sd ((does_loadBox agg_25 sz_25 rfl S (i := 1) rfl rfl)) <| sy hg7 <| sf fo_48_0 rfl <| sy hg7 <| sl S 0 one_3 rfl rfl rfl <| sy hg7 <| sf fo_48_1 rfl <| sy hg7 <| sl S 0 one_23 rfl rfl rfl <| sy hg7 <| sf fo_48_2 rfl <| sy hg7 <| sl S 0 one_3 rfl rfl rfl <| sE ?_;intro a H
  refine list_yes' H rfl rfl (by assumption) ?_
  refine list_call H rfl rfl Try.func29 rfl rfl (ref_CheckLeave pl ps PA pc xs XA xc out pe BA bc T0 _ (hps.now S) hpn (hxs.now S) hxn (hpe.now S) hpen) ?_
  rintro _ _ a ⟨rfl, S2⟩ H
  replace S := S.call S2;clear S2
  refine ls 1 H <| sy hg7 <| sr 1 rfl <| sE ?_;intro a H
  exact wpList_nil ⟨H.strip 9 rfl rfl, (S.sel [0, 1] rfl rfl)⟩
 clear H a S;intro a _ H S
 refine ls 1 H <| so rfl rfl rfl <| sE ?_;clear H a;intro a H
 refine k3 _ _ ?_;clear k3 K3
 refine cond_ H rfl (fun hc1 => ?_) (fun hc1 => ?_)
 ·skip
  try simp only [o1,o2,o3,o4,o5,o6,o7,o8,o9,oa] at hc1
  replace H := H.keep [] rfl
  refine seq_list fun K4 k4 => ?_
  refine list_call H rfl rfl Try.func15 rfl rfl (law_works _) ?_;clear H a
  rintro _ _ a ⟨rfl, S2⟩ H
  replace S := S.call S2;clear S2
  refine ls 1 H <| sr 1 rfl <| sE ?_;clear H a;intro a H
  refine k4 _ _ ?_;clear k4 K4
  refine wp_ret ?_
  refine ret1 (fn := Try.f13) rfl H rfl ?_
  exact ⟨rfl, (S.sel [] rfl rfl)⟩
 try simp only [o1,o2,o3,o4,o5,o6,o7,o8,o9,oa] at hc1
 have hlv : leaveE pl ps xs out pe T0 = 0 := by omega
 have hsm := hcb hc1.1
 obtain ⟨hst, hou, hcr, hti⟩ := leaveE_ok hlv
 have hV0 := st_valid hst
 obtain ⟨P, rfl⟩ : ∃ P : Nat, pl = P := ⟨pl.toNat, by have := hV0.size; omega⟩
 have hV := hV0
 obtain ⟨hpp, hpl'⟩ := crowd_ok hcr
 have hpl : pe.length = P := by omega
 obtain ⟨T, rfl⟩ : ∃ T : Nat, T0 = T := ⟨T0.toNat, by omega⟩
 have hT : T ≤ 60 := by omega
 have hP10 := hV.size
 have hpk : PeOk pe := hpp
 refine wp_skip ?_
 refine k2 _ _ ?_
 refine sS H fun K5 k5=>sr 1 rfl <| sE ?_;clear H a;intro a H
 refine k5 _ ?_;clear k5 K5
 refine wp_seq_k fun K6 k6 => ?_
 refine sS H fun K7 k7=>sr 1 rfl <| sE ?_;clear H a;intro a H
 refine k7 _ ?_;clear k7 K7
 refine wp_block ?_
 rw [show (0 : Int) = sumI pe 0 from rfl] at H
 refine loop_st (X := Nat) (R0 := _) [2, 3] H rfl (fun q => [(5, .int .i64 (sumI pe q)), (6, .int .i64 (q : Int))]) (fun q => []) (fun g q => q ≤ pe.length ∧ g + q = pe.length) (pe.length) 0 ?_ (S.sel [0, 1] rfl rfl) (H.keep [5, 6, 2, 3] rfl) ?_
 · exact ⟨by omega, by omega⟩
 clear H S a
 intro g1 x1 a w1 hp S H K8 k8
 obtain ⟨q, rfl⟩ : ∃ y, y = x1 := ⟨_, rfl⟩
 refine wp_seq_k fun K9 k9 => ?_
 refine sS H fun K10 k10=>sr 1 rfl <| sf fo_48_1 rfl <| sl S 0 one_23 rfl rfl rfl <| sL sl_23 rfl <| sr 1 rfl <| sE ?_;clear H a;intro a H
 refine k10 _ ?_;clear k10 K10
 refine condL H rfl (fun hc2 => ?_) (fun hc2 => ?_)
 ·skip
  refine wp_skip ?_
  refine k9 _ _ ?_
  refine wp_seq_k fun K11 k11 => ?_
  refine wp_block ?_
  have hsb := sumI_bd hpp q (by omega)
  have hpi2 := hpp q (by omega)
  replace H := H.keep [2, 3, 5, 6] rfl
  refine sO H <| sr 1 rfl <| sf fo_48_1 rfl <| sl S 0 one_23 rfl rfl rfl <| sr 1 rfl <| si sl_23 sz_3 rfl rfl (hpe.adr (by omega)) (by omega) <| slm one_3 rfl (hpe.rd S (by omega) (by omega)) <| sd (does_add rfl rfl (by unfold i64ok; omega)) <| sr 1 rfl <| sE ?_;clear H a;intro a H
  refine k11 _ _ ?_
  replace H := H.keep [2, 3, 5, 6] rfl
  refine sO H <| sr 1 rfl <| sd (does_add rfl rfl (by unfold i64ok; omega)) <| sr 1 rfl <| sE ?_;clear H a;intro a H
  exact k8 (g1 - 1) (q + 1) a _ (by omega) (⟨by omega, by omega⟩) (S.sel [0, 1] rfl rfl) (H.keep [5, 6, 2, 3] rfl)
 refine wp_exit ?_
 refine k6 _ _ ?_
 obtain rfl : q = pe.length := by omega
 replace H := H.keep [2, 3, 5] rfl
 refine seq_list fun K14 k14 => ?_
 refine ls 7 H <| sd ((does_loadBox agg_25 sz_25 rfl S (i := 1) rfl rfl)) <| sf fo_48_0 rfl <| sl S 0 one_3 rfl rfl rfl <| sf fo_48_1 rfl <| sl S 0 one_23 rfl rfl rfl <| sf fo_48_2 rfl <| sl S 0 one_3 rfl rfl rfl <| sE ?_;clear H a;intro a H
 refine list_call H rfl rfl Try.func30 rfl rfl (left_C P ps PA pc xs XA xc out pe BA bc T _ (hps.now S) hpn (hxs.now S) hxn (hpe.now S) hpen (hlv)) ?_;clear H a
 rintro _ _ a ⟨rfl, S2⟩ H
 replace S := S.call S2;clear S2
 refine ls 5 H <| sr 5 rfl <| sE ?_;clear H a;intro a H
 refine k14 _ _ ?_;clear k14 K14
 replace H := H.keep [2, 3, 5, 7, 8] rfl
 refine seq_list fun K15 k15 => ?_
 refine ls 7 H <| sd ((does_loadBox agg_25 sz_25 rfl S (i := 1) rfl rfl)) <| sf fo_48_0 rfl <| sl S 0 one_3 rfl rfl rfl <| sf fo_48_1 rfl <| sl S 0 one_23 rfl rfl rfl <| sf fo_48_2 rfl <| sl S 0 one_3 rfl rfl rfl <| sE ?_;clear H a;intro a H
 refine list_call H rfl rfl Try.func45 rfl rfl (ways_Must P ps PA pc xs XA xc out pe BA bc T _ (hps.now S) hpn (hxs.now S) hxn (hpe.now S) hpen) ?_;clear H a
 rintro _ _ a ⟨A7, c7, rfl, S2⟩ H
 replace S := S.call S2;clear S2
 obtain ⟨mu, me, hmu, hml, hmc⟩ := must_ex hlv
 simp only [hmu, toI_len, ← wcl_icl] at H S
 refine ls 5 H <| sr 5 rfl <| sE ?_;clear H a;intro a H
 refine k15 _ _ ?_;clear k15 K15
 refine wp_seq_k fun K16 k16 => ?_
 replace H := H.keep [2, 3, 5, 7, 8, 9, 10] rfl
 refine sS H fun K17 k17=>sr 1 rfl <| sd (does_ne_f rfl rfl rfl) <| sr 1 rfl <| sy rfl <| sr 1 rfl <| sy rfl <| sr 1 rfl <| sy rfl <| sr 1 rfl <| sy rfl <| sr 1 rfl <| sy rfl <| sr 1 rfl <| sy rfl <| sd ((does_neqb Try.underlying4 rfl rfl).to (v' := .bool false) (congrArg Value.bool (stop_ok hmc))) <| so rfl rfl rfl <| sr 1 rfl <| sy rfl <| sr 1 rfl <| sy rfl <| sr 1 rfl <| sy rfl <| sr 1 rfl <| sg 2 13 84 86 true rfl rfl (fun hg14 => by
     have hq14 := hg14;try simp only [o1,o2,o3,o4,o5,o6,o7,o8,o9,oa] at hq14
     exact sy hg14 <| sr 1 rfl <| sy hg14 <| sr 1 rfl <| sz 2 rfl rfl rfl) <| sy rfl <| sa rfl rfl rfl <| so rfl rfl rfl <| sE ?_;clear H a;intro a H
 refine k17 _ ?_;clear k17 K17
 refine cond_ H rfl (fun hc3 => ?_) (fun hc3 => ?_)
 ·skip
  try simp only [o1,o2,o3,o4,o5,o6,o7,o8,o9,oa] at hc3
  exfalso
  rcases hmc with ⟨h, _⟩ | ⟨h, _⟩ <;> rw [h] at hc3 <;> simp at hc3
 try simp only [o1,o2,o3,o4,o5,o6,o7,o8,o9,oa] at hc3
 refine wp_skip ?_
 refine k16 _ _ ?_
 refine wp_seq_k fun K18 k18 => ?_
 replace H := H.keep [2, 3, 5, 9, 10] rfl
 refine sS H fun K19 k19=>sr 1 rfl <| sE ?_;clear H a;intro a H
 refine k19 _ ?_;clear k19 K19
 refine wp_block ?_
 refine loop_st (X := Nat) (R0 := _) [2, 3, 5, 9, 10] H rfl (fun i => [(11, .int .i64 (i : Int))]) (fun i => []) (fun g i => i ≤ ps.length ∧ g + i = ps.length) (ps.length) 0 ?_ (S.sel [0, 1, 2] rfl rfl) (H.keep [11, 2, 3, 5, 9, 10] rfl) ?_
 · exact ⟨by omega, by omega⟩
 clear H S a
 intro g2 x2 a w2 hp S H K20 k20
 obtain ⟨i, rfl⟩ : ∃ y, y = x2 := ⟨_, rfl⟩
 obtain ⟨hil, hgi⟩ := hp
 refine wp_seq_k fun K21 k21 => ?_
 refine sS H fun K22 k22=>sr 1 rfl <| sf fo_25_1 rfl <| sl S 2 one_22 rfl rfl rfl <| sL sl_22 rfl <| sr 2 rfl <| sg 2 5 94 96 true rfl rfl (fun hg6 => by
     have hq6 := hg6;try simp only [o1,o2,o3,o4,o5,o6,o7,o8,o9,oa] at hq6
     exact sy hg6 <| sr 1 rfl <| sy hg6 <| sr 1 rfl <| sz 2 rfl rfl rfl) <| sa rfl rfl rfl <| sE ?_;clear H a;intro a H
 refine k22 _ ?_;clear k22 K22
 refine cond_ H rfl (fun hc4 => ?_) (fun hc4 => ?_)
 ·skip
  try simp only [o1,o2,o3,o4,o5,o6,o7,o8,o9,oa] at hc4
  refine wp_skip ?_
  refine k21 _ _ ?_
  refine wp_seq_k fun K23 k23 => ?_
  refine wp_block ?_
  replace H := H.keep [2, 3, 5, 9, 10, 11] rfl
  refine seq_list fun K24 k24 => ?_
  refine ls 5 H <| sf fo_25_1 rfl <| sl S 2 one_22 rfl rfl rfl <| sr 1 rfl <| si sl_22 sz_45 rfl rfl (hps.adr (by omega)) (by omega) <| sd ((does_loadIn agg_45 sz_45 rfl S hps (by omega) (by omega))) <| sE ?_;clear H a;intro a H
  refine list_alloc H rfl S ze_45 ?_;clear H a S;intro b12 _ a hb12 hbw12 S H
  refine list_store H S (i := 0) rfl rfl rfl rfl sz_45 rfl rfl ?_
  clear H a S;intro _ a S H
  refine k24 _ _ ?_;clear k24 K24
  refine wp_seq_k fun K25 k25 => ?_
  replace H := H.keep [2, 3, 5, 9, 10, 11, 12] rfl
  refine sS H fun K26 k26=>sf fo_45_2 rfl <| sl S 0 one_3 rfl rfl rfl <| sr 2 rfl <| sg 8 3 108 116 false rfl rfl (fun hg4 => by
      have hq4 := hg4;try simp only [o1,o2,o3,o4,o5,o6,o7,o8,o9,oa] at hq4
      have hmm : 0 ≤ (ps.getD i Psg.zero).mach ∧ (ps.getD i Psg.zero).mach ≤ 11 := mov_mach hV (by omega) (by omega)
      exact sy hg4 <| sf fo_48_0 rfl <| sy hg4 <| sl S 2 one_3 rfl rfl rfl <| sy hg4 <| sf fo_45_5 rfl <| sy hg4 <| sl S 0 one_3 rfl rfl rfl <| sy hg4 <| sd (does_convert Try.underlying3 Try.underlying78 rfl (by first | omega | exact IntWalk.i64_in _ (by omega) | exact IntWalk.u64_in _ (by omega))) <| sy hg4 <| sd (does_shr rfl rfl (by omega) (by omega)) <| sy hg4 <| sd (does_and1 rfl rfl) <| sy hg4 <| sr 1 rfl <| sz 8 rfl rfl rfl) <| so rfl rfl rfl <| sE ?_;clear H a;intro a H
  refine k26 _ ?_;clear k26 K26
  refine cond_ H rfl (fun hc5 => ?_) (fun hc5 => ?_)
  ·skip
   try simp only [o1,o2,o3,o4,o5,o6,o7,o8,o9,oa] at hc5
   refine wp_exit ?_
   refine k23 _ _ ?_
   replace H := H.keep [2, 3, 5, 9, 10, 11] rfl
   refine sO H <| sr 1 rfl <| sd (does_add rfl rfl (by unfold i64ok; omega)) <| sr 1 rfl <| sE ?_;clear H a;intro a H
   exact k20 (g2 - 1) (i + 1) a _ (by omega) (⟨by omega, by omega⟩) (S.sel [1, 2, 3] rfl rfl) (H.keep [11, 2, 3, 5, 9, 10] rfl)
  try simp only [o1,o2,o3,o4,o5,o6,o7,o8,o9,oa] at hc5
  have hmm : 0 ≤ (ps.getD i Psg.zero).mach ∧ (ps.getD i Psg.zero).mach ≤ 11 := mov_mach hV (by omega) (by omega)
  refine wp_skip ?_
  refine k25 _ _ ?_
  refine sS H fun K28 k28=>sr 1 rfl <| sE ?_;clear H a;intro a H
  refine k28 _ ?_;clear k28 K28
  refine wp_seq_k fun K29 k29 => ?_
  refine sS H fun K30 k30=>sr 1 rfl <| sE ?_;clear H a;intro a H
  refine k30 _ ?_;clear k30 K30
  refine wp_block ?_
  refine loop_st (X := Nat × Bool) (R0 := _) [2, 3, 5, 9, 10, 11, 12] H rfl (fun ⟨k, nb⟩ => [(13, .bool nb), (14, .int .i64 (k : Int))]) (fun ⟨k, nb⟩ => []) (fun g ⟨k, nb⟩ => k ≤ mu.length ∧ g + k = mu.length ∧ (nb = true ↔ ∃ j, j < k ∧ ((mu.getD j 0 : Nat) : Int) = (ps.getD i Psg.zero).mach)) (mu.length) (0, false) ?_ (S.sel [0, 1, 2, 3] rfl rfl) (H.keep [13, 14, 2, 3, 5, 9, 10, 11, 12] rfl) ?_
  · exact ⟨by omega, by omega, (fun h => by cases h), fun ⟨j, hj, _⟩ => absurd hj (Nat.not_lt_zero j)⟩
  clear H S a
  intro g3 x3 a w3 hp S H K31 k31
  obtain ⟨k, nb⟩ := x3
  dsimp only at hp S H
  obtain ⟨hkl, hgk, hnb⟩ := hp
  refine wp_seq_k fun K32 k32 => ?_
  refine sS H fun K33 k33=>sr 2 rfl <| sL sl_23 rfl <| sr 1 rfl <| sE ?_;clear H a;intro a H
  refine k33 _ ?_;clear k33 K33
  refine condL H rfl (fun hc6 => ?_) (fun hc6 => ?_)
  ·skip
   refine wp_skip ?_
   refine k32 _ _ ?_
   refine wp_seq_k fun K34 k34 => ?_
   refine wp_block ?_
   cases nb
   ·skip
    replace H := H.keep [2, 3, 5, 9, 10, 11, 12, 13, 14] rfl
    replace S := S.drew
    refine sP H <| sr 2 rfl <| sg 7 1 125 132 false rfl rfl (fun hg2 => by
        have hq2 := hg2;try simp only [o1,o2,o3,o4,o5,o6,o7,o8,o9,oa] at hq2
        exact sy hg2 <| sr 1 rfl <| sy hg2 <| sr 1 rfl <| sy hg2 <| si sl_23 sz_3 rfl rfl (ownM.adr S (i := 1) rfl (by omega)) (by omega) <| sy hg2 <| slm one_3 rfl (ownM.rd S (i := 1) rfl (by omega) (by omega)) <| sy hg2 <| sf fo_45_5 rfl <| sy hg2 <| sl S 0 one_3 rfl rfl rfl <| sy hg2 <| sr 1 rfl <| sz 7 rfl rfl rfl) <| so rfl rfl rfl <| sr 1 rfl <| sE ?_;clear H a;intro a H
    refine k34 _ _ ?_
    replace H := H.keep [2, 3, 5, 9, 10, 11, 12, 13, 14] rfl
    refine sO H <| sr 1 rfl <| sd (does_add rfl rfl (by unfold i64ok; omega)) <| sr 1 rfl <| sE ?_;clear H a;intro a H
    exact k31 (g3 - 1) (k + 1, _) a _ (by omega) (⟨by omega, by omega, by first | exact nm_t hnb | exact nm_f hnb⟩) (S.sel [0, 1, 2, 3] rfl rfl) (H.keep [13, 14, 2, 3, 5, 9, 10, 11, 12] rfl)
   replace H := H.keep [2, 3, 5, 9, 10, 11, 12, 13, 14] rfl
   replace S := S.drew
   refine sP H <| sr 2 rfl <| sg 7 1 125 132 false rfl rfl (fun hg2 => by
       have hq2 := hg2;try simp only [o1,o2,o3,o4,o5,o6,o7,o8,o9,oa] at hq2
       exact sy hg2 <| sr 1 rfl <| sy hg2 <| sr 1 rfl <| sy hg2 <| si sl_23 sz_3 rfl rfl (ownM.adr S (i := 1) rfl (by omega)) (by omega) <| sy hg2 <| slm one_3 rfl (ownM.rd S (i := 1) rfl (by omega) (by omega)) <| sy hg2 <| sf fo_45_5 rfl <| sy hg2 <| sl S 0 one_3 rfl rfl rfl <| sy hg2 <| sr 1 rfl <| sz 7 rfl rfl rfl) <| so rfl rfl rfl <| sr 1 rfl <| sE ?_;clear H a;intro a H
   refine k34 _ _ ?_
   replace H := H.keep [2, 3, 5, 9, 10, 11, 12, 13, 14] rfl
   refine sO H <| sr 1 rfl <| sd (does_add rfl rfl (by unfold i64ok; omega)) <| sr 1 rfl <| sE ?_;clear H a;intro a H
   exact k31 (g3 - 1) (k + 1, _) a _ (by omega) (⟨by omega, by omega, by first | exact nm_t hnb | exact nm_f hnb⟩) (S.sel [0, 1, 2, 3] rfl rfl) (H.keep [13, 14, 2, 3, 5, 9, 10, 11, 12] rfl)
  refine wp_exit ?_
  refine k29 _ _ ?_
  have hpw := pwI_le hmm
  have hbr : 0 ≤ (out + 1 * 2 ^ (ps.getD i Psg.zero).mach.toNat) ∧ (out + 1 * 2 ^ (ps.getD i Psg.zero).mach.toNat) ≤ 4095 := by rw [Int.one_mul]; exact bit_room hou (by omega) (by omega)
  replace H := H.keep [2, 3, 5, 9, 10, 11, 12, 13] rfl
  refine seq_list fun K39 k39 => ?_
  refine ls 12 H <| sd ((does_loadBox agg_25 sz_25 rfl S (i := 3) rfl rfl)) <| sf fo_48_0 rfl <| sl S 2 one_3 rfl rfl rfl <| sf fo_45_5 rfl <| sl S 0 one_3 rfl rfl rfl <| sd (does_convert Try.underlying3 Try.underlying78 rfl (by first | omega | exact IntWalk.i64_in _ (by omega) | exact IntWalk.u64_in _ (by omega))) <| sd (does_shl rfl rfl (by omega) (by omega) (by unfold i64ok; omega)) <| sd (does_add rfl rfl (by unfold i64ok; omega)) <| sf fo_48_1 rfl <| sl S 2 one_23 rfl rfl rfl <| sf fo_48_2 rfl <| sl S 2 one_3 rfl rfl rfl <| sE ?_;clear H a;intro a H
  refine list_call H rfl rfl Try.func30 rfl rfl (left_C P ps PA pc xs XA xc (out + 1 * 2 ^ (ps.getD i Psg.zero).mach.toNat) pe BA bc T _ (hps.now S) hpn (hxs.now S) hxn (hpe.now S) hpen (leave_out hlv hbr)) ?_;clear H a
  rintro _ _ a ⟨rfl, S2⟩ H
  replace S := S.call S2;clear S2
  refine ls 5 H <| sr 5 rfl <| sE ?_;clear H a;intro a H
  refine k39 _ _ ?_;clear k39 K39
  obtain rfl : k = mu.length := by omega
  have hnx := stop_nm hV (by omega) (hmc.resolve_right (by omega)).2.2 (by omega) (by omega) hnb
  replace H := H.keep [2, 3, 5, 9, 10, 11, 13, 15, 16] rfl
  refine sS H fun K40 k40=>sr 1 rfl <| sd (does_ne_f rfl rfl rfl) <| sr 1 rfl <| sy rfl <| sr 1 rfl <| sy rfl <| sr 1 rfl <| sy rfl <| sr 1 rfl <| sy rfl <| sr 1 rfl <| sy rfl <| sd ((does_eqlb Try.underlying4 rfl rfl).to (v' := .bool false) (congrArg Value.bool hnx)) <| so rfl rfl rfl <| sE ?_;clear H a;intro a H
  refine k40 _ ?_;clear k40 K40
  refine cond_ H rfl (fun hc7 => ?_) (fun hc7 => ?_)
  ·skip
   skip
   cases hc7
  skip
  refine wp_skip ?_
  refine k23 _ _ ?_
  replace H := H.keep [2, 3, 5, 9, 10, 11] rfl
  refine sO H <| sr 1 rfl <| sd (does_add rfl rfl (by unfold i64ok; omega)) <| sr 1 rfl <| sE ?_;clear H a;intro a H
  exact k20 (g2 - 1) (i + 1) a _ (by omega) (⟨by omega, by omega⟩) (S.sel [1, 2, 3] rfl rfl) (H.keep [11, 2, 3, 5, 9, 10] rfl)
 try simp only [o1,o2,o3,o4,o5,o6,o7,o8,o9,oa] at hc4
 refine wp_exit ?_
 refine k18 _ _ ?_
 refine seq_list fun K42 k42 => ?_
 refine list_call H rfl rfl Try.func15 rfl rfl (law_works _) ?_;clear H a
 rintro _ _ a ⟨rfl, S2⟩ H
 replace S := S.call S2;clear S2
 refine ls 1 H <| sr 1 rfl <| sE ?_;clear H a;intro a H
 refine k42 _ _ ?_;clear k42 K42
 refine wp_ret ?_
 refine ret1 (fn := Try.f13) rfl H rfl ?_
 exact ⟨rfl, (S.sel [] rfl rfl)⟩

end Go.Proofs.Ytlmddkekeoebcaa
