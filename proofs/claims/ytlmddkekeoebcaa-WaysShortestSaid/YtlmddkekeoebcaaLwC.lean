/- LwC. Printed by gen.py. -/
import Derived.Test.YtlmddkekeoebcaaRwE
import Derived.Test.YtlmddkekeoebcaaRwW
namespace Go.Proofs.Ytlmddkekeoebcaa
open Go.RowKit
set_option linter.unusedVariables false
set_option linter.unusedSimpArgs false
set_option maxRecDepth 100000
set_option maxHeartbeats 4000000


theorem nf_next {A : Nat → Prop} {k : Nat} {f b : Bool} (h : f = false → ∀ q, q < k → ¬ A q) (hb : b = false → ¬ A k) : (f || b) = false → ∀ q, q < k + 1 → ¬ A q := fun e q hq => by
  rw [Bool.or_eq_false_iff] at e
  by_cases e2 : q = k
  · subst e2; exact hb e.2
  · exact h e.1 q (by omega)
theorem and_no {A B : Prop} [Decidable A] [Decidable B] : (decide A && decide B) = false → ¬ (A ∧ B) := fun h h2 => by rw [decide_eq_true h2.1, decide_eq_true h2.2] at h; cases h


theorem law_WaysShortest (pl : Int) (ps : List Psg) (PA : Option Addr) (pc : Nat) (xs : List Int) (XA : Option Addr) (xc : Nat) (out : Int) (help : Bool) (fr to : Int) (l : List Int) (LA : Option Addr) (lc : Nat) (w : World) (hps : InS w noF 7 PA ps.length (pcell ps)) (hpn8 : 56 * ps.length ≤ 140737488355328) (hxs : InS w noF 1 XA xs.length (icl xs)) (hxn8 : 8 * xs.length ≤ 140737488355328) (hl : InS w noF 1 LA l.length (icl l)) (hl8 : 8 * l.length ≤ 140737488355328) :
    Calls Try.prog 5 [.agg [.int .i64 pl, .slice PA ps.length pc, .slice XA xs.length xc].toArray, .agg [.int .i64 out, .bool help, .int .i64 fr, .int .i64 to].toArray, .slice LA l.length lc].toArray w (Ret (fun u w' => u = .bool true ∧ St w noF [] w')) := by
 have hpn : ps.length ≤ 9223372036854775807 := by omega
 have hxn : xs.length ≤ 9223372036854775807 := by omega
 have hln : l.length ≤ 9223372036854775807 := by omega
 refine enter Try.func5 rfl Try.ntmps5 rfl (fun a H => ?_)
 have S := St.start w
 refine seq_list fun K1 k1 => ?_
 refine list_box H rfl S rfl rfl ?_;clear H a S;intro b3 _ a hb3 hbw3 S H
 refine list_box H rfl S rfl rfl ?_;clear H a S;intro b4 _ a hb4 hbw4 S H
 refine ls 1 H <| sr 1 rfl <| sE ?_;clear H a;intro a H
 refine k1 _ _ ?_;clear k1 K1
 refine wp_seq_k fun K2 k2 => ?_
 replace H := H.keep [2, 3, 4] rfl
 refine seq_list fun K3 k3 => ?_
 refine list_does H rfl ((by first | (exact does_loadBox agg_25 sz_25 rfl S (i := 0) rfl rfl; trace "ALT law_WaysShortest 1.0.1 0") | (exact does_loadBox agg_25 sz_25 rfl S (i := 1) rfl rfl; trace "ALT law_WaysShortest 1.0.1 1"))) ?_;clear H a;intro a H
 refine list_call H rfl rfl Try.func20 rfl rfl (ref_Check pl ps PA pc xs XA xc _ (hps.now S) hpn (hxs.now S) hxn) ?_;clear H a
 rintro _ _ a ⟨rfl, S2⟩ H
 replace S := S.call S2;clear S2
 refine ls 5 H <| sr 2 rfl <| sg 3 3 28 31 false rfl rfl (fun hg4 => by
     have hq4 := hg4;try simp only [o1,o2,o3,o4,o5,o6,o7,o8,o9,oa] at hq4
     exact sy hg4 <| sK fun a H => by
           refine still_does H rfl ((by first | (exact does_field_pt fo_27_0 rfl; trace "ALT law_WaysShortest 1.4.1 0") | (exact does_field fo_27_0 rfl; trace "ALT law_WaysShortest 1.4.1 1"))) ?_;clear H a;intro a H
           exact sF H <| sy hg4 <| sK fun a H => by
               refine still_does H rfl (does_load one_3 rfl (by first | (exact hl.rd S (by omega) (by omega); trace "ALT law_WaysShortest 1.5.1 0") | (exact hps.rd S (by omega) (by omega); trace "ALT law_WaysShortest 1.5.1 1") | (exact boxM.rd S (i := 0) rfl rfl; trace "ALT law_WaysShortest 1.5.1 2") | (exact boxM.rd S (i := 1) rfl rfl; trace "ALT law_WaysShortest 1.5.1 3"))) ?_;clear H a;intro a H
               exact sF H <| sy hg4 <| sr 1 rfl <| sz 3 rfl rfl rfl) <| sE ?_;clear H a;intro a H
 refine list_does H rfl ((by first | (exact does_or rfl rfl rfl; trace "ALT law_WaysShortest 1.7.1 0") | (exact does_pick rfl rfl rfl; trace "ALT law_WaysShortest 1.7.1 1"))) ?_;clear H a;intro a H
 refine ls 4 H <| sr 1 rfl <| sg 3 8 33 36 false rfl rfl (fun hg9 => by
     have hq9 := hg9;try simp only [o1,o2,o3,o4,o5,o6,o7,o8,o9,oa] at hq9
     exact sy hg9 <| sK fun a H => by
           refine still_does H rfl ((by first | (exact does_field_pt fo_27_0 rfl; trace "ALT law_WaysShortest 1.9.1 0") | (exact does_field fo_27_0 rfl; trace "ALT law_WaysShortest 1.9.1 1"))) ?_;clear H a;intro a H
           exact sF H <| sy hg9 <| sK fun a H => by
               refine still_does H rfl (does_load one_3 rfl (by first | (exact hl.rd S (by omega) (by omega); trace "ALT law_WaysShortest 1.10.1 0") | (exact hps.rd S (by omega) (by omega); trace "ALT law_WaysShortest 1.10.1 1") | (exact boxM.rd S (i := 0) rfl rfl; trace "ALT law_WaysShortest 1.10.1 2") | (exact boxM.rd S (i := 1) rfl rfl; trace "ALT law_WaysShortest 1.10.1 3"))) ?_;clear H a;intro a H
               exact sF H <| sy hg9 <| sr 1 rfl <| sz 3 rfl rfl rfl) <| sE ?_;clear H a;intro a H
 refine list_does H rfl ((by first | (exact does_or rfl rfl rfl; trace "ALT law_WaysShortest 1.12.1 0") | (exact does_pick rfl rfl rfl; trace "ALT law_WaysShortest 1.12.1 1"))) ?_;clear H a;intro a H
 refine ls 4 H <| sr 1 rfl <| sg 3 13 38 41 false rfl rfl (fun hg14 => by
     have hq14 := hg14;try simp only [o1,o2,o3,o4,o5,o6,o7,o8,o9,oa] at hq14
     exact sy hg14 <| sK fun a H => by
           refine still_does H rfl ((by first | (exact does_field_pt fo_27_2 rfl; trace "ALT law_WaysShortest 1.14.1 0") | (exact does_field fo_27_2 rfl; trace "ALT law_WaysShortest 1.14.1 1"))) ?_;clear H a;intro a H
           exact sF H <| sy hg14 <| sK fun a H => by
               refine still_does H rfl (does_load one_3 rfl (by first | (exact hl.rd S (by omega) (by omega); trace "ALT law_WaysShortest 1.15.1 0") | (exact hps.rd S (by omega) (by omega); trace "ALT law_WaysShortest 1.15.1 1") | (exact boxM.rd S (i := 0) rfl rfl; trace "ALT law_WaysShortest 1.15.1 2") | (exact boxM.rd S (i := 1) rfl rfl; trace "ALT law_WaysShortest 1.15.1 3"))) ?_;clear H a;intro a H
               exact sF H <| sy hg14 <| sr 1 rfl <| sz 3 rfl rfl rfl) <| sE ?_;clear H a;intro a H
 refine list_does H rfl ((by first | (exact does_or rfl rfl rfl; trace "ALT law_WaysShortest 1.17.1 0") | (exact does_pick rfl rfl rfl; trace "ALT law_WaysShortest 1.17.1 1"))) ?_;clear H a;intro a H
 refine ls 6 H <| sr 1 rfl <| sg 5 18 43 48 false rfl rfl (fun hg19 => by
     have hq19 := hg19;try simp only [o1,o2,o3,o4,o5,o6,o7,o8,o9,oa] at hq19
     exact sy hg19 <| sK fun a H => by
           refine still_does H rfl ((by first | (exact does_field_pt fo_27_2 rfl; trace "ALT law_WaysShortest 1.19.1 0") | (exact does_field fo_27_2 rfl; trace "ALT law_WaysShortest 1.19.1 1"))) ?_;clear H a;intro a H
           exact sF H <| sy hg19 <| sK fun a H => by
               refine still_does H rfl (does_load one_3 rfl (by first | (exact hl.rd S (by omega) (by omega); trace "ALT law_WaysShortest 1.20.1 0") | (exact hps.rd S (by omega) (by omega); trace "ALT law_WaysShortest 1.20.1 1") | (exact boxM.rd S (i := 0) rfl rfl; trace "ALT law_WaysShortest 1.20.1 2") | (exact boxM.rd S (i := 1) rfl rfl; trace "ALT law_WaysShortest 1.20.1 3"))) ?_;clear H a;intro a H
               exact sF H <| sy hg19 <| sK fun a H => by
                   refine still_does H rfl ((by first | (exact does_field_pt fo_25_0 rfl; trace "ALT law_WaysShortest 1.21.1 0") | (exact does_field fo_25_0 rfl; trace "ALT law_WaysShortest 1.21.1 1"))) ?_;clear H a;intro a H
                   exact sF H <| sy hg19 <| sK fun a H => by
                       refine still_does H rfl (does_load one_3 rfl (by first | (exact hl.rd S (by omega) (by omega); trace "ALT law_WaysShortest 1.22.1 0") | (exact hps.rd S (by omega) (by omega); trace "ALT law_WaysShortest 1.22.1 1") | (exact boxM.rd S (i := 0) rfl rfl; trace "ALT law_WaysShortest 1.22.1 2") | (exact boxM.rd S (i := 1) rfl rfl; trace "ALT law_WaysShortest 1.22.1 3"))) ?_;clear H a;intro a H
                       exact sF H <| sy hg19 <| sr 1 rfl <| sz 5 rfl rfl rfl) <| sE ?_;clear H a;intro a H
 refine list_does H rfl ((by first | (exact does_or rfl rfl rfl; trace "ALT law_WaysShortest 1.24.1 0") | (exact does_pick rfl rfl rfl; trace "ALT law_WaysShortest 1.24.1 1"))) ?_;clear H a;intro a H
 refine ls 4 H <| sr 1 rfl <| sg 3 25 50 53 false rfl rfl (fun hg26 => by
     have hq26 := hg26;try simp only [o1,o2,o3,o4,o5,o6,o7,o8,o9,oa] at hq26
     exact sy hg26 <| sK fun a H => by
           refine still_does H rfl ((by first | (exact does_field_pt fo_27_3 rfl; trace "ALT law_WaysShortest 1.26.1 0") | (exact does_field fo_27_3 rfl; trace "ALT law_WaysShortest 1.26.1 1"))) ?_;clear H a;intro a H
           exact sF H <| sy hg26 <| sK fun a H => by
               refine still_does H rfl (does_load one_3 rfl (by first | (exact hl.rd S (by omega) (by omega); trace "ALT law_WaysShortest 1.27.1 0") | (exact hps.rd S (by omega) (by omega); trace "ALT law_WaysShortest 1.27.1 1") | (exact boxM.rd S (i := 0) rfl rfl; trace "ALT law_WaysShortest 1.27.1 2") | (exact boxM.rd S (i := 1) rfl rfl; trace "ALT law_WaysShortest 1.27.1 3"))) ?_;clear H a;intro a H
               exact sF H <| sy hg26 <| sr 1 rfl <| sz 3 rfl rfl rfl) <| sE ?_;clear H a;intro a H
 refine list_does H rfl ((by first | (exact does_or rfl rfl rfl; trace "ALT law_WaysShortest 1.29.1 0") | (exact does_pick rfl rfl rfl; trace "ALT law_WaysShortest 1.29.1 1"))) ?_;clear H a;intro a H
 refine ls 6 H <| sr 1 rfl <| sg 5 30 55 60 false rfl rfl (fun hg31 => by
     have hq31 := hg31;try simp only [o1,o2,o3,o4,o5,o6,o7,o8,o9,oa] at hq31
     exact sy hg31 <| sK fun a H => by
           refine still_does H rfl ((by first | (exact does_field_pt fo_27_3 rfl; trace "ALT law_WaysShortest 1.31.1 0") | (exact does_field fo_27_3 rfl; trace "ALT law_WaysShortest 1.31.1 1"))) ?_;clear H a;intro a H
           exact sF H <| sy hg31 <| sK fun a H => by
               refine still_does H rfl (does_load one_3 rfl (by first | (exact hl.rd S (by omega) (by omega); trace "ALT law_WaysShortest 1.32.1 0") | (exact hps.rd S (by omega) (by omega); trace "ALT law_WaysShortest 1.32.1 1") | (exact boxM.rd S (i := 0) rfl rfl; trace "ALT law_WaysShortest 1.32.1 2") | (exact boxM.rd S (i := 1) rfl rfl; trace "ALT law_WaysShortest 1.32.1 3"))) ?_;clear H a;intro a H
               exact sF H <| sy hg31 <| sK fun a H => by
                   refine still_does H rfl ((by first | (exact does_field_pt fo_25_0 rfl; trace "ALT law_WaysShortest 1.33.1 0") | (exact does_field fo_25_0 rfl; trace "ALT law_WaysShortest 1.33.1 1"))) ?_;clear H a;intro a H
                   exact sF H <| sy hg31 <| sK fun a H => by
                       refine still_does H rfl (does_load one_3 rfl (by first | (exact hl.rd S (by omega) (by omega); trace "ALT law_WaysShortest 1.34.1 0") | (exact hps.rd S (by omega) (by omega); trace "ALT law_WaysShortest 1.34.1 1") | (exact boxM.rd S (i := 0) rfl rfl; trace "ALT law_WaysShortest 1.34.1 2") | (exact boxM.rd S (i := 1) rfl rfl; trace "ALT law_WaysShortest 1.34.1 3"))) ?_;clear H a;intro a H
                       exact sF H <| sy hg31 <| sr 1 rfl <| sz 5 rfl rfl rfl) <| sE ?_;clear H a;intro a H
 refine list_does H rfl ((by first | (exact does_or rfl rfl rfl; trace "ALT law_WaysShortest 1.36.1 0") | (exact does_pick rfl rfl rfl; trace "ALT law_WaysShortest 1.36.1 1"))) ?_;clear H a;intro a H
 refine k3 _ _ ?_;clear k3 K3
 refine cond_ H rfl (fun hc1 => ?_) (fun hc1 => ?_)
 ·skip
  try simp only [o1,o2,o3,o4,o5,o6,o7,o8,o9,oa] at hc1
  replace H := H.keep [] rfl
  refine seq_list fun K4 k4 => ?_
  refine list_call H rfl rfl Try.func15 rfl rfl (law_works _) ?_;clear H a
  rintro _ _ a ⟨rfl, S2⟩ H
  replace S := S.call S2;clear S2
  refine ls 1 H <| sr 1 rfl <| sE ?_;clear H a;intro a H
  refine k4 _ _ ?_;clear k4 K4
  refine wp_ret ?_
  refine ret1 (fn := Try.f5) rfl H rfl ?_
  exact ⟨rfl, (S.sel [] rfl rfl)⟩
 try simp only [o1,o2,o3,o4,o5,o6,o7,o8,o9,oa] at hc1
 obtain ⟨P, rfl⟩ : ∃ P : Nat, pl = P := ⟨pl.toNat, by omega⟩
 obtain ⟨fr, rfl⟩ := Int.eq_ofNat_of_zero_le (show 0 ≤ fr by omega)
 obtain ⟨to, rfl⟩ := Int.eq_ofNat_of_zero_le (show 0 ≤ to by omega)
 have hst : stE P ps xs = 0 := by omega
 have hV : StV P ps xs := st_valid hst
 have hP10 := hV.size
 have hfr : fr < P := by omega
 have hto : to < P := by omega
 have hou : 0 ≤ out ∧ out ≤ 4095 := by omega
 have hask := askE_of (xs := xs) hst hou hfr hto
 have hF := far_ok (out := out) (help := help) hV.psv (by omega) hto
 refine wp_skip ?_
 refine k2 _ _ ?_
 replace H := H.keep [2, 3, 4] rfl
 refine seq_list fun K5 k5 => ?_
 refine list_does H rfl ((by first | (exact does_loadBox agg_25 sz_25 rfl S (i := 0) rfl rfl; trace "ALT law_WaysShortest 3.0.1 0") | (exact does_loadBox agg_25 sz_25 rfl S (i := 1) rfl rfl; trace "ALT law_WaysShortest 3.0.1 1"))) ?_;clear H a;intro a H
 refine list_does H rfl ((by first | (exact does_field_pt fo_27_0 rfl; trace "ALT law_WaysShortest 3.1.1 0") | (exact does_field fo_27_0 rfl; trace "ALT law_WaysShortest 3.1.1 1"))) ?_;clear H a;intro a H
 refine list_does H rfl (does_load one_3 rfl (by first | (exact hl.rd S (by omega) (by omega); trace "ALT law_WaysShortest 3.2.1 0") | (exact hps.rd S (by omega) (by omega); trace "ALT law_WaysShortest 3.2.1 1") | (exact boxM.rd S (i := 0) rfl rfl; trace "ALT law_WaysShortest 3.2.1 2") | (exact boxM.rd S (i := 1) rfl rfl; trace "ALT law_WaysShortest 3.2.1 3"))) ?_;clear H a;intro a H
 refine list_does H rfl ((by first | (exact does_field_pt fo_27_1 rfl; trace "ALT law_WaysShortest 3.3.1 0") | (exact does_field fo_27_1 rfl; trace "ALT law_WaysShortest 3.3.1 1"))) ?_;clear H a;intro a H
 refine list_does H rfl (does_load one_4 rfl (by first | (exact hl.rd S (by omega) (by omega); trace "ALT law_WaysShortest 3.4.1 0") | (exact hps.rd S (by omega) (by omega); trace "ALT law_WaysShortest 3.4.1 1") | (exact boxM.rd S (i := 0) rfl rfl; trace "ALT law_WaysShortest 3.4.1 2") | (exact boxM.rd S (i := 1) rfl rfl; trace "ALT law_WaysShortest 3.4.1 3"))) ?_;clear H a;intro a H
 refine list_does H rfl ((by first | (exact does_field_pt fo_27_2 rfl; trace "ALT law_WaysShortest 3.5.1 0") | (exact does_field fo_27_2 rfl; trace "ALT law_WaysShortest 3.5.1 1"))) ?_;clear H a;intro a H
 refine list_does H rfl (does_load one_3 rfl (by first | (exact hl.rd S (by omega) (by omega); trace "ALT law_WaysShortest 3.6.1 0") | (exact hps.rd S (by omega) (by omega); trace "ALT law_WaysShortest 3.6.1 1") | (exact boxM.rd S (i := 0) rfl rfl; trace "ALT law_WaysShortest 3.6.1 2") | (exact boxM.rd S (i := 1) rfl rfl; trace "ALT law_WaysShortest 3.6.1 3"))) ?_;clear H a;intro a H
 refine list_does H rfl ((by first | (exact does_field_pt fo_27_3 rfl; trace "ALT law_WaysShortest 3.7.1 0") | (exact does_field fo_27_3 rfl; trace "ALT law_WaysShortest 3.7.1 1"))) ?_;clear H a;intro a H
 refine list_does H rfl (does_load one_3 rfl (by first | (exact hl.rd S (by omega) (by omega); trace "ALT law_WaysShortest 3.8.1 0") | (exact hps.rd S (by omega) (by omega); trace "ALT law_WaysShortest 3.8.1 1") | (exact boxM.rd S (i := 0) rfl rfl; trace "ALT law_WaysShortest 3.8.1 2") | (exact boxM.rd S (i := 1) rfl rfl; trace "ALT law_WaysShortest 3.8.1 3"))) ?_;clear H a;intro a H
 refine list_call H rfl rfl Try.func21 rfl rfl (ret_imp (ways_Way P ps PA pc xs XA xc out help fr to _ (hps.now S) hpn (hxs.now S) hxn) (fun u w' h => way_form h)) ?_;clear H a
 rintro _ _ a ⟨A6, c6, rfl, _, S2⟩ H
 replace S := S.call S2;clear S2
 refine ls 7 H <| sr 7 rfl <| sE ?_;clear H a;intro a H
 refine k5 _ _ ?_;clear k5 K5
 replace H := H.keep [2, 3, 4, 7, 8, 9] rfl
 refine seq_list fun K6 k6 => ?_
 refine list_does H rfl ((by first | (exact does_loadBox agg_25 sz_25 rfl S (i := 0) rfl rfl; trace "ALT law_WaysShortest 4.0.1 0") | (exact does_loadBox agg_25 sz_25 rfl S (i := 1) rfl rfl; trace "ALT law_WaysShortest 4.0.1 1") | (exact does_loadBox agg_25 sz_25 rfl S (i := 2) rfl rfl; trace "ALT law_WaysShortest 4.0.1 2"))) ?_;clear H a;intro a H
 refine list_does H rfl ((by first | (exact does_field_pt fo_27_0 rfl; trace "ALT law_WaysShortest 4.1.1 0") | (exact does_field fo_27_0 rfl; trace "ALT law_WaysShortest 4.1.1 1"))) ?_;clear H a;intro a H
 refine list_does H rfl (does_load one_3 rfl (by first | (exact hl.rd S (by omega) (by omega); trace "ALT law_WaysShortest 4.2.1 0") | (exact hps.rd S (by omega) (by omega); trace "ALT law_WaysShortest 4.2.1 1") | (exact boxM.rd S (i := 0) rfl rfl; trace "ALT law_WaysShortest 4.2.1 2") | (exact boxM.rd S (i := 1) rfl rfl; trace "ALT law_WaysShortest 4.2.1 3") | (exact boxM.rd S (i := 2) rfl rfl; trace "ALT law_WaysShortest 4.2.1 4"))) ?_;clear H a;intro a H
 refine list_does H rfl ((by first | (exact does_field_pt fo_27_1 rfl; trace "ALT law_WaysShortest 4.3.1 0") | (exact does_field fo_27_1 rfl; trace "ALT law_WaysShortest 4.3.1 1"))) ?_;clear H a;intro a H
 refine list_does H rfl (does_load one_4 rfl (by first | (exact hl.rd S (by omega) (by omega); trace "ALT law_WaysShortest 4.4.1 0") | (exact hps.rd S (by omega) (by omega); trace "ALT law_WaysShortest 4.4.1 1") | (exact boxM.rd S (i := 0) rfl rfl; trace "ALT law_WaysShortest 4.4.1 2") | (exact boxM.rd S (i := 1) rfl rfl; trace "ALT law_WaysShortest 4.4.1 3") | (exact boxM.rd S (i := 2) rfl rfl; trace "ALT law_WaysShortest 4.4.1 4"))) ?_;clear H a;intro a H
 refine list_does H rfl ((by first | (exact does_field_pt fo_27_2 rfl; trace "ALT law_WaysShortest 4.5.1 0") | (exact does_field fo_27_2 rfl; trace "ALT law_WaysShortest 4.5.1 1"))) ?_;clear H a;intro a H
 refine list_does H rfl (does_load one_3 rfl (by first | (exact hl.rd S (by omega) (by omega); trace "ALT law_WaysShortest 4.6.1 0") | (exact hps.rd S (by omega) (by omega); trace "ALT law_WaysShortest 4.6.1 1") | (exact boxM.rd S (i := 0) rfl rfl; trace "ALT law_WaysShortest 4.6.1 2") | (exact boxM.rd S (i := 1) rfl rfl; trace "ALT law_WaysShortest 4.6.1 3") | (exact boxM.rd S (i := 2) rfl rfl; trace "ALT law_WaysShortest 4.6.1 4"))) ?_;clear H a;intro a H
 refine list_does H rfl ((by first | (exact does_field_pt fo_27_3 rfl; trace "ALT law_WaysShortest 4.7.1 0") | (exact does_field fo_27_3 rfl; trace "ALT law_WaysShortest 4.7.1 1"))) ?_;clear H a;intro a H
 refine list_does H rfl (does_load one_3 rfl (by first | (exact hl.rd S (by omega) (by omega); trace "ALT law_WaysShortest 4.8.1 0") | (exact hps.rd S (by omega) (by omega); trace "ALT law_WaysShortest 4.8.1 1") | (exact boxM.rd S (i := 0) rfl rfl; trace "ALT law_WaysShortest 4.8.1 2") | (exact boxM.rd S (i := 1) rfl rfl; trace "ALT law_WaysShortest 4.8.1 3") | (exact boxM.rd S (i := 2) rfl rfl; trace "ALT law_WaysShortest 4.8.1 4"))) ?_;clear H a;intro a H
 refine ls 1 H <| sr 1 rfl <| sE ?_;clear H a;intro a H
 refine list_call H rfl rfl Try.func26 rfl rfl (ref_Free P ps PA pc xs XA xc out help fr to l LA lc _ (hps.now S) hpn (hxs.now S) hxn (hl.now S) hln (by omega) hV) ?_;clear H a
 rintro _ _ a ⟨rfl, S2⟩ H
 replace S := S.call S2;clear S2
 refine ls 5 H <| sr 5 rfl <| sE ?_;clear H a;intro a H
 refine k6 _ _ ?_;clear k6 K6
 refine wp_seq_k fun K7 k7 => ?_
 replace H := H.keep [2, 3, 4, 7, 8, 9, 10, 11] rfl
 refine sS H fun K8 k8=>sr 2 rfl <| sE ?_;clear H a;intro a H
 refine k8 _ ?_;clear k8 K8
 refine condN H rfl (fun hc2 => ?_) (fun hc2 => ?_)
 ·skip
  have hno := short_no (l := l) hV hask hfr hto hc2
  rw [hno.2] at H
  replace H := H.keep [9, 11] rfl
  refine seq_list fun K9 k9 => ?_
  refine ls 5 H <| sr 1 rfl <| sd (does_eq_t rfl rfl hno.1) <| sr 1 rfl <| sy rfl <| sr 1 rfl <| sy rfl <| sr 1 rfl <| sE ?_;clear H a;intro a H
  refine list_does H rfl ((by first | (exact does_and rfl rfl rfl; trace "ALT law_WaysShortest 6.5.1 0") | (exact does_pick rfl rfl rfl; trace "ALT law_WaysShortest 6.5.1 1"))) ?_;clear H a;intro a H
  refine ls 1 H <| sr 1 rfl <| sE ?_;clear H a;intro a H
  refine list_yes H rfl rfl ?_
  refine list_call H rfl rfl Try.func15 rfl rfl (law_works _) ?_;clear H a
  rintro _ _ a ⟨rfl, S2⟩ H
  replace S := S.call S2;clear S2
  refine list_does H rfl ((by first | (exact does_and rfl rfl rfl; trace "ALT law_WaysShortest 6.8.1 0") | (exact does_pick rfl rfl rfl; trace "ALT law_WaysShortest 6.8.1 1"))) ?_;clear H a;intro a H
  refine ls 1 H <| sr 1 rfl <| sE ?_;clear H a;intro a H
  refine k9 _ _ ?_;clear k9 K9
  refine wp_ret ?_
  refine ret1 (fn := Try.f5) rfl H rfl ?_
  exact ⟨rfl, (S.sel [] rfl rfl)⟩
 have hS := short_ok (l := l) hV hask hfr hto (by omega)
 have hWl : (wayV P ps xs out help fr to).2.1.length = (wayL P ps out help fr to).length := by rw [wayV_ok hask (by by_cases hd : dst P ps out help to fr < 0; (rw [wayV_no hask hd] at hc2; cases hc2); omega)]; exact toI_len _
 refine wp_skip ?_
 refine k7 _ _ ?_
 replace H := H.keep [2, 3, 4, 7, 8, 10, 11] rfl
 refine seq_list fun K10 k10 => ?_
 refine list_does H rfl ((by first | (exact does_loadBox agg_25 sz_25 rfl S (i := 0) rfl rfl; trace "ALT law_WaysShortest 7.0.1 0") | (exact does_loadBox agg_25 sz_25 rfl S (i := 1) rfl rfl; trace "ALT law_WaysShortest 7.0.1 1") | (exact does_loadBox agg_25 sz_25 rfl S (i := 2) rfl rfl; trace "ALT law_WaysShortest 7.0.1 2"))) ?_;clear H a;intro a H
 refine list_does H rfl ((by first | (exact does_field_pt fo_27_0 rfl; trace "ALT law_WaysShortest 7.1.1 0") | (exact does_field fo_27_0 rfl; trace "ALT law_WaysShortest 7.1.1 1"))) ?_;clear H a;intro a H
 refine list_does H rfl (does_load one_3 rfl (by first | (exact hl.rd S (by omega) (by omega); trace "ALT law_WaysShortest 7.2.1 0") | (exact hps.rd S (by omega) (by omega); trace "ALT law_WaysShortest 7.2.1 1") | (exact boxM.rd S (i := 0) rfl rfl; trace "ALT law_WaysShortest 7.2.1 2") | (exact boxM.rd S (i := 1) rfl rfl; trace "ALT law_WaysShortest 7.2.1 3") | (exact boxM.rd S (i := 2) rfl rfl; trace "ALT law_WaysShortest 7.2.1 4"))) ?_;clear H a;intro a H
 refine list_does H rfl ((by first | (exact does_field_pt fo_27_1 rfl; trace "ALT law_WaysShortest 7.3.1 0") | (exact does_field fo_27_1 rfl; trace "ALT law_WaysShortest 7.3.1 1"))) ?_;clear H a;intro a H
 refine list_does H rfl (does_load one_4 rfl (by first | (exact hl.rd S (by omega) (by omega); trace "ALT law_WaysShortest 7.4.1 0") | (exact hps.rd S (by omega) (by omega); trace "ALT law_WaysShortest 7.4.1 1") | (exact boxM.rd S (i := 0) rfl rfl; trace "ALT law_WaysShortest 7.4.1 2") | (exact boxM.rd S (i := 1) rfl rfl; trace "ALT law_WaysShortest 7.4.1 3") | (exact boxM.rd S (i := 2) rfl rfl; trace "ALT law_WaysShortest 7.4.1 4"))) ?_;clear H a;intro a H
 refine list_does H rfl ((by first | (exact does_field_pt fo_27_2 rfl; trace "ALT law_WaysShortest 7.5.1 0") | (exact does_field fo_27_2 rfl; trace "ALT law_WaysShortest 7.5.1 1"))) ?_;clear H a;intro a H
 refine list_does H rfl (does_load one_3 rfl (by first | (exact hl.rd S (by omega) (by omega); trace "ALT law_WaysShortest 7.6.1 0") | (exact hps.rd S (by omega) (by omega); trace "ALT law_WaysShortest 7.6.1 1") | (exact boxM.rd S (i := 0) rfl rfl; trace "ALT law_WaysShortest 7.6.1 2") | (exact boxM.rd S (i := 1) rfl rfl; trace "ALT law_WaysShortest 7.6.1 3") | (exact boxM.rd S (i := 2) rfl rfl; trace "ALT law_WaysShortest 7.6.1 4"))) ?_;clear H a;intro a H
 refine list_does H rfl ((by first | (exact does_field_pt fo_27_3 rfl; trace "ALT law_WaysShortest 7.7.1 0") | (exact does_field fo_27_3 rfl; trace "ALT law_WaysShortest 7.7.1 1"))) ?_;clear H a;intro a H
 refine list_does H rfl (does_load one_3 rfl (by first | (exact hl.rd S (by omega) (by omega); trace "ALT law_WaysShortest 7.8.1 0") | (exact hps.rd S (by omega) (by omega); trace "ALT law_WaysShortest 7.8.1 1") | (exact boxM.rd S (i := 0) rfl rfl; trace "ALT law_WaysShortest 7.8.1 2") | (exact boxM.rd S (i := 1) rfl rfl; trace "ALT law_WaysShortest 7.8.1 3") | (exact boxM.rd S (i := 2) rfl rfl; trace "ALT law_WaysShortest 7.8.1 4"))) ?_;clear H a;intro a H
 refine ls 1 H <| sr 1 rfl <| sE ?_;clear H a;intro a H
 have hw17 : (wayV P ps xs out help fr to).2.1.length ≤ 17592186044416 := by rw [hWl]; have := wayL_len (ps := ps) (out := out) (help := help) (fr := fr) (to := to) (hF.sml fr hfr); omega
 refine list_call H rfl rfl Try.func26 rfl rfl (ref_Free P ps PA pc xs XA xc out help fr to (wayV P ps xs out help fr to).2.1 A6 c6 _ (hps.now S) hpn (hxs.now S) hxn (ownM.inS S (i := 0) rfl) (ownM.len63 S (i := 0) rfl) hw17 hV) ?_;clear H a
 rintro _ _ a ⟨rfl, S2⟩ H
 replace S := S.call S2;clear S2
 rw [hS.is] at H
 refine ls 5 H <| sr 5 rfl <| sE ?_;clear H a;intro a H
 refine k10 _ _ ?_;clear k10 K10
 refine wp_seq_k fun K11 k11 => ?_
 replace H := H.keep [2, 3, 4, 7, 8, 10, 11, 12, 13] rfl
 refine seq_list fun K12 k12 => ?_
 refine ls 6 H <| sr 3 rfl <| sg 3 2 118 121 false rfl rfl (fun hg3 => by
     have hq3 := hg3;try simp only [o1,o2,o3,o4,o5,o6,o7,o8,o9,oa] at hq3
     exact sy hg3 <| sr 1 rfl <| sy hg3 <| sr 1 rfl <| sy hg3 <| sr 1 rfl <| sz 3 rfl rfl rfl) <| sE ?_;clear H a;intro a H
 refine list_does H rfl ((by first | (exact does_or rfl rfl rfl; trace "ALT law_WaysShortest 8.6.1 0") | (exact does_pick rfl rfl rfl; trace "ALT law_WaysShortest 8.6.1 1"))) ?_;clear H a;intro a H
 refine ls 1 H <| sr 1 rfl <| sE ?_;clear H a;intro a H
 apply list_guard (i := 7) (g := 123) (t := 139) (b := false) 16 H S rfl rfl (by kernel_rfl) (by kernel_rfl) rfl rfl
 case h1 =>
  intro hg8
  have hq8 := hg8; try simp only [o1,o2,o3,o4,o5,o6,o7,o8,o9,oa] at hq8
  refine ls 2 H <| sy hg8 <| sr 1 rfl <| sy hg8 <| sr 1 rfl <| sE ?_;intro a H
  apply list_guard (i := 9) (g := 125) (t := 138) (b := true) 13 H S rfl rfl (by kernel_rfl) (by kernel_rfl) rfl rfl
  case h1 =>
   intro hg10
   have hq10 := hg10; try simp only [o1,o2,o3,o4,o5,o6,o7,o8,o9,oa] at hq10
   refine ls 4 H <| sy hg10 <| sr 1 rfl <| sy hg10 <| sr 1 rfl <| sy hg10 <| sr 1 rfl <| sy hg10 <| sr 1 rfl <| sE ?_;intro a H
   apply list_guard (i := 13) (g := 129) (t := 137) (b := false) 8 H S rfl rfl (by kernel_rfl) (by kernel_rfl) rfl rfl
   case h1 =>
    intro hg14
    have hq14 := hg14; try simp only [o1,o2,o3,o4,o5,o6,o7,o8,o9,oa] at hq14
    refine ls 4 H <| sy hg14 <| sr 1 rfl <| sy hg14 <| sr 1 rfl <| sy hg14 <| sr 1 rfl <| sy hg14 <| sr 1 rfl <| sE ?_;intro a H
    apply list_guard (i := 17) (g := 133) (t := 136) (b := true) 3 H S rfl rfl (by kernel_rfl) (by kernel_rfl) rfl rfl
    case h1 =>
     intro hg18
     have hq18 := hg18; try simp only [o1,o2,o3,o4,o5,o6,o7,o8,o9,oa] at hq18
     refine ls 2 H <| sy hg18 <| sr 1 rfl <| sy hg18 <| sr 1 rfl <| sE ?_;intro a H
     refine list_yes' H rfl rfl (by assumption) ?_
     refine list_call H rfl rfl Try.func27 rfl rfl (law_before l (wayV P ps xs out help fr to).2.1 LA A6 lc c6 _ (hl.now S) (ownM.inS S (i := 0) rfl) hln (ownM.len63 S (i := 0) rfl)) ?_
     rintro _ _ a ⟨rfl, S2⟩ H
     replace S := S.call S2;clear S2
     exact wpList_nil ⟨H.strip 3 rfl rfl, (S.sel [0, 1, 2] rfl rfl)⟩
    intro a _ H S
    refine list_yes' H rfl rfl (hg14) ?_
    refine list_does H rfl ((by first | (exact does_and rfl rfl rfl; trace "ALT law_WaysShortest 8.21.1 0") | (exact does_pick rfl rfl rfl; trace "ALT law_WaysShortest 8.21.1 1"))) ?_;intro a H
    exact wpList_nil ⟨H.strip 6 rfl rfl, (S.sel [0, 1, 2] rfl rfl)⟩
   intro a _ H S
   refine list_yes' H rfl rfl (hg10) ?_
   refine list_does H rfl ((by first | (exact does_or rfl rfl rfl; trace "ALT law_WaysShortest 8.22.1 0") | (exact does_pick rfl rfl rfl; trace "ALT law_WaysShortest 8.22.1 1"))) ?_;intro a H
   exact wpList_nil ⟨H.strip 6 rfl rfl, (S.sel [0, 1, 2] rfl rfl)⟩
  intro a _ H S
  refine list_yes' H rfl rfl (hg8) ?_
  refine list_does H rfl ((by first | (exact does_and rfl rfl rfl; trace "ALT law_WaysShortest 8.23.1 0") | (exact does_pick rfl rfl rfl; trace "ALT law_WaysShortest 8.23.1 1"))) ?_;intro a H
  exact wpList_nil ⟨H.strip 4 rfl rfl, (S.sel [0, 1, 2] rfl rfl)⟩
 clear H a S;intro a _ H S
 refine list_does H rfl ((by first | (exact does_or rfl rfl rfl; trace "ALT law_WaysShortest 8.24.1 0") | (exact does_pick rfl rfl rfl; trace "ALT law_WaysShortest 8.24.1 1"))) ?_;clear H a;intro a H
 refine k12 _ _ ?_;clear k12 K12
 refine cond_ H rfl (fun hc3 => ?_) (fun hc3 => ?_)
 ·skip
  try simp only [o1,o2,o3,o4,o5,o6,o7,o8,o9,oa] at hc3
  exfalso
  have h91 := hS.least
  have h92 := hS.first
  rcases hc3 with h | ⟨h, h2 | ⟨h2, h3⟩⟩
  · simp at h
  · have := h91 h; omega
  · rw [h92 h h2] at h3; cases h3
 try simp only [o1,o2,o3,o4,o5,o6,o7,o8,o9,oa] at hc3
 refine wp_skip ?_
 refine k11 _ _ ?_
 replace H := H.keep [2, 3, 4, 7, 11] rfl
 refine seq_list fun K13 k13 => ?_
 refine list_does H rfl ((by first | (exact does_loadBox agg_25 sz_25 rfl S (i := 0) rfl rfl; trace "ALT law_WaysShortest 10.0.1 0") | (exact does_loadBox agg_25 sz_25 rfl S (i := 1) rfl rfl; trace "ALT law_WaysShortest 10.0.1 1") | (exact does_loadBox agg_25 sz_25 rfl S (i := 2) rfl rfl; trace "ALT law_WaysShortest 10.0.1 2"))) ?_;clear H a;intro a H
 refine list_does H rfl ((by first | (exact does_field_pt fo_27_0 rfl; trace "ALT law_WaysShortest 10.1.1 0") | (exact does_field fo_27_0 rfl; trace "ALT law_WaysShortest 10.1.1 1"))) ?_;clear H a;intro a H
 refine list_does H rfl (does_load one_3 rfl (by first | (exact hl.rd S (by omega) (by omega); trace "ALT law_WaysShortest 10.2.1 0") | (exact hps.rd S (by omega) (by omega); trace "ALT law_WaysShortest 10.2.1 1") | (exact boxM.rd S (i := 0) rfl rfl; trace "ALT law_WaysShortest 10.2.1 2") | (exact boxM.rd S (i := 1) rfl rfl; trace "ALT law_WaysShortest 10.2.1 3") | (exact boxM.rd S (i := 2) rfl rfl; trace "ALT law_WaysShortest 10.2.1 4"))) ?_;clear H a;intro a H
 refine list_does H rfl ((by first | (exact does_field_pt fo_27_1 rfl; trace "ALT law_WaysShortest 10.3.1 0") | (exact does_field fo_27_1 rfl; trace "ALT law_WaysShortest 10.3.1 1"))) ?_;clear H a;intro a H
 refine list_does H rfl (does_load one_4 rfl (by first | (exact hl.rd S (by omega) (by omega); trace "ALT law_WaysShortest 10.4.1 0") | (exact hps.rd S (by omega) (by omega); trace "ALT law_WaysShortest 10.4.1 1") | (exact boxM.rd S (i := 0) rfl rfl; trace "ALT law_WaysShortest 10.4.1 2") | (exact boxM.rd S (i := 1) rfl rfl; trace "ALT law_WaysShortest 10.4.1 3") | (exact boxM.rd S (i := 2) rfl rfl; trace "ALT law_WaysShortest 10.4.1 4"))) ?_;clear H a;intro a H
 refine list_does H rfl ((by first | (exact does_field_pt fo_27_2 rfl; trace "ALT law_WaysShortest 10.5.1 0") | (exact does_field fo_27_2 rfl; trace "ALT law_WaysShortest 10.5.1 1"))) ?_;clear H a;intro a H
 refine list_does H rfl (does_load one_3 rfl (by first | (exact hl.rd S (by omega) (by omega); trace "ALT law_WaysShortest 10.6.1 0") | (exact hps.rd S (by omega) (by omega); trace "ALT law_WaysShortest 10.6.1 1") | (exact boxM.rd S (i := 0) rfl rfl; trace "ALT law_WaysShortest 10.6.1 2") | (exact boxM.rd S (i := 1) rfl rfl; trace "ALT law_WaysShortest 10.6.1 3") | (exact boxM.rd S (i := 2) rfl rfl; trace "ALT law_WaysShortest 10.6.1 4"))) ?_;clear H a;intro a H
 refine list_does H rfl ((by first | (exact does_field_pt fo_27_3 rfl; trace "ALT law_WaysShortest 10.7.1 0") | (exact does_field fo_27_3 rfl; trace "ALT law_WaysShortest 10.7.1 1"))) ?_;clear H a;intro a H
 refine list_does H rfl (does_load one_3 rfl (by first | (exact hl.rd S (by omega) (by omega); trace "ALT law_WaysShortest 10.8.1 0") | (exact hps.rd S (by omega) (by omega); trace "ALT law_WaysShortest 10.8.1 1") | (exact boxM.rd S (i := 0) rfl rfl; trace "ALT law_WaysShortest 10.8.1 2") | (exact boxM.rd S (i := 1) rfl rfl; trace "ALT law_WaysShortest 10.8.1 3") | (exact boxM.rd S (i := 2) rfl rfl; trace "ALT law_WaysShortest 10.8.1 4"))) ?_;clear H a;intro a H
 refine list_call H rfl rfl Try.func24 rfl rfl (ret_imp (ways_Needed P ps PA pc xs XA xc out help fr to _ (hps.now S) hpn (hxs.now S) hxn) (fun u w' h => need_form h)) ?_;clear H a
 rintro _ _ a ⟨A8, c8, rfl, S2⟩ H
 replace S := S.call S2;clear S2
 rw [hS.need0] at H
 have hn63 := ownM.len63 S (i := 0) rfl
 refine ls 5 H <| sr 5 rfl <| sE ?_;clear H a;intro a H
 refine k13 _ _ ?_;clear k13 K13
 refine wp_seq_k fun K14 k14 => ?_
 replace H := H.keep [2, 3, 4, 7, 11, 14, 15] rfl
 refine sS H fun K15 k15=>sr 2 rfl <| sE ?_;clear H a;intro a H
 refine k15 _ ?_;clear k15 K15
 refine cond_ H rfl (fun hc4 => ?_) (fun hc4 => ?_)
 ·skip
  skip
  cases hc4
 skip
 refine wp_skip ?_
 refine k14 _ _ ?_
 refine wp_seq_k fun K16 k16 => ?_
 refine sS H fun K17 k17=>sr 1 rfl <| sE ?_;clear H a;intro a H
 refine k17 _ ?_;clear k17 K17
 refine wp_block ?_
 refine loop_st (X := Nat) (R0 := _) [2, 3, 4, 7, 11, 14] H rfl (fun i => [(16, .int .i64 (i : Int))]) (fun i => []) (fun g i => i ≤ (needV P ps xs out help fr to).1.length ∧ g + i = (needV P ps xs out help fr to).1.length) ((needV P ps xs out help fr to).1.length) 0 ?_ (S.sel [0, 1, 2, 3] rfl rfl) (H.keep [16, 2, 3, 4, 7, 11, 14] rfl) ?_
 · exact ⟨by omega, by omega⟩
 clear H S a
 intro g1 x1 a w1 hp S H K18 k18
 obtain ⟨i, rfl⟩ : ∃ y, y = x1 := ⟨_, rfl⟩
 obtain ⟨hil, hgi⟩ := hp
 refine wp_seq_k fun K19 k19 => ?_
 refine sS H fun K20 k20=>sr 2 rfl <| sL sl_23 rfl <| sr 2 rfl <| sg 1 4 160 161 true rfl rfl (fun hg5 => by
     have hq5 := hg5;try simp only [o1,o2,o3,o4,o5,o6,o7,o8,o9,oa] at hq5
     exact sy hg5 <| sr 1 rfl <| sz 1 rfl rfl rfl) <| sK ?_;clear H a;intro a H
 refine still_does H rfl ((by first | (exact does_and rfl rfl rfl; trace "ALT law_WaysShortest 14.6.1 0") | (exact does_pick rfl rfl rfl; trace "ALT law_WaysShortest 14.6.1 1"))) ?_;clear H a;intro a H
 refine sF H <| sE ?_;clear H a;intro a H
 refine k20 _ ?_;clear k20 K20
 refine cond_ H rfl (fun hc5 => ?_) (fun hc5 => ?_)
 ·skip
  try simp only [o1,o2,o3,o4,o5,o6,o7,o8,o9,oa] at hc5
  have hrg := hS.rng hc5.2
  refine wp_skip ?_
  refine k19 _ _ ?_
  refine wp_seq_k fun K21 k21 => ?_
  refine wp_block ?_
  refine sS H fun K22 k22=>sr 1 rfl <| sE ?_;clear H a;intro a H
  refine k22 _ ?_;clear k22 K22
  refine wp_seq_k fun K23 k23 => ?_
  refine sS H fun K24 k24=>sr 1 rfl <| sE ?_;clear H a;intro a H
  refine k24 _ ?_;clear k24 K24
  refine wp_block ?_
  refine loop_st (X := Nat × Bool) (R0 := _) [2, 3, 4, 7, 11, 14, 16] H rfl (fun ⟨k, fd⟩ => [(17, .bool fd), (18, .int .i64 (k : Int))]) (fun ⟨k, fd⟩ => []) (fun g ⟨k, fd⟩ => k ≤ l.length ∧ g + k = l.length ∧ (fd = false → ∀ q, q < k → ¬ ((ps.getD (l.getD q 0).toNat Psg.zero).kind = 4 ∧ (ps.getD (l.getD q 0).toNat Psg.zero).mach = (needV P ps xs out help fr to).1.getD i 0))) (l.length) (0, false) ?_ (S.sel [0, 1, 2, 3] rfl rfl) (H.keep [17, 18, 2, 3, 4, 7, 11, 14, 16] rfl) ?_
  · exact ⟨by omega, by omega, fun _ q hq => absurd hq (Nat.not_lt_zero q)⟩
  clear H S a
  intro g2 x2 a w2 hp S H K25 k25
  obtain ⟨k, fd⟩ := x2
  dsimp only at hp S H
  refine wp_seq_k fun K26 k26 => ?_
  refine sS H fun K27 k27=>sr 2 rfl <| sL sl_41 rfl <| sr 1 rfl <| sE ?_;clear H a;intro a H
  refine k27 _ ?_;clear k27 K27
  refine condL H rfl (fun hc6 => ?_) (fun hc6 => ?_)
  ·skip
   have hrk := hrg k (by omega)
   refine wp_skip ?_
   refine k26 _ _ ?_
   refine wp_seq_k fun K28 k28 => ?_
   refine wp_block ?_
   replace H := H.keep [2, 3, 4, 7, 11, 14, 16, 17, 18] rfl
   replace S := S.drew
   refine sP H <| sr 2 rfl <| sg 26 1 172 198 false rfl rfl (fun hg2 => by
       have hq2 := hg2;try simp only [o1,o2,o3,o4,o5,o6,o7,o8,o9,oa] at hq2
       exact sy hg2 <| sK fun a H => by
             refine still_does H rfl ((by first | (exact does_field_pt fo_25_1 rfl; trace "ALT law_WaysShortest 20.2.1 0") | (exact does_field fo_25_1 rfl; trace "ALT law_WaysShortest 20.2.1 1"))) ?_;clear H a;intro a H
             exact sF H <| sy hg2 <| sK fun a H => by
                 refine still_does H rfl (does_load one_22 rfl (by first | (exact hl.rd S (by omega) (by omega); trace "ALT law_WaysShortest 20.3.1 0") | (exact hps.rd S (by omega) (by omega); trace "ALT law_WaysShortest 20.3.1 1") | (exact ownM.rd S (i := 0) rfl (by omega) (by omega); trace "ALT law_WaysShortest 20.3.1 2") | (exact boxM.rd S (i := 0) rfl rfl; trace "ALT law_WaysShortest 20.3.1 3") | (exact boxM.rd S (i := 1) rfl rfl; trace "ALT law_WaysShortest 20.3.1 4") | (exact boxM.rd S (i := 2) rfl rfl; trace "ALT law_WaysShortest 20.3.1 5") | (exact boxM.rd S (i := 3) rfl rfl; trace "ALT law_WaysShortest 20.3.1 6"))) ?_;clear H a;intro a H
                 exact sF H <| sy hg2 <| sr 1 rfl <| sy hg2 <| sr 1 rfl <| sy hg2 <| sK fun a H => by
                     refine still_does H rfl (by first | (exact does_indexN sl_41 sz_3 rfl rfl (by first | (exact hl.adr (by omega); trace "ALT law_WaysShortest 20.6.1 0") | (exact hps.adr (by omega); trace "ALT law_WaysShortest 20.6.1 1") | (exact ownM.adr S (i := 0) rfl (by omega); trace "ALT law_WaysShortest 20.6.1 2")) (by omega); trace "ALT law_WaysShortest 20.6.3 0") | (exact does_index sl_41 sz_3 rfl rfl (by first | (exact hl.adr (by omega); trace "ALT law_WaysShortest 20.6.1 0") | (exact hps.adr (by omega); trace "ALT law_WaysShortest 20.6.1 1") | (exact ownM.adr S (i := 0) rfl (by omega); trace "ALT law_WaysShortest 20.6.1 2")) (by omega) (by omega); trace "ALT law_WaysShortest 20.6.3 1")) ?_;clear H a;intro a H
                     exact sF H <| sy hg2 <| sK fun a H => by
                         refine still_does H rfl (does_load one_3 rfl (by first | (exact hl.rd S (by omega) (by omega); trace "ALT law_WaysShortest 20.7.1 0") | (exact hps.rd S (by omega) (by omega); trace "ALT law_WaysShortest 20.7.1 1") | (exact ownM.rd S (i := 0) rfl (by omega) (by omega); trace "ALT law_WaysShortest 20.7.1 2") | (exact boxM.rd S (i := 0) rfl rfl; trace "ALT law_WaysShortest 20.7.1 3") | (exact boxM.rd S (i := 1) rfl rfl; trace "ALT law_WaysShortest 20.7.1 4") | (exact boxM.rd S (i := 2) rfl rfl; trace "ALT law_WaysShortest 20.7.1 5") | (exact boxM.rd S (i := 3) rfl rfl; trace "ALT law_WaysShortest 20.7.1 6"))) ?_;clear H a;intro a H
                         exact sF H <| sy hg2 <| sK fun a H => by
                             refine still_does H rfl (by first | (exact does_indexN sl_22 sz_45 rfl rfl (by first | (exact hl.adr (by omega); trace "ALT law_WaysShortest 20.8.1 0") | (exact hps.adr (by omega); trace "ALT law_WaysShortest 20.8.1 1") | (exact ownM.adr S (i := 0) rfl (by omega); trace "ALT law_WaysShortest 20.8.1 2")) (by omega); trace "ALT law_WaysShortest 20.8.3 0") | (exact does_index sl_22 sz_45 rfl rfl (by first | (exact hl.adr (by omega); trace "ALT law_WaysShortest 20.8.1 0") | (exact hps.adr (by omega); trace "ALT law_WaysShortest 20.8.1 1") | (exact ownM.adr S (i := 0) rfl (by omega); trace "ALT law_WaysShortest 20.8.1 2")) (by omega) (by omega); trace "ALT law_WaysShortest 20.8.3 1")) ?_;clear H a;intro a H
                             exact sF H <| sy hg2 <| sK fun a H => by
                                 refine still_does H rfl ((by first | (exact does_field_pt fo_45_2 rfl; trace "ALT law_WaysShortest 20.9.1 0") | (exact does_field fo_45_2 rfl; trace "ALT law_WaysShortest 20.9.1 1"))) ?_;clear H a;intro a H
                                 exact sF H <| sy hg2 <| sK fun a H => by
                                     refine still_does H rfl (does_load one_3 rfl (by first | (exact hl.rd S (by omega) (by omega); trace "ALT law_WaysShortest 20.10.1 0") | (exact hps.rd S (by omega) (by omega); trace "ALT law_WaysShortest 20.10.1 1") | (exact ownM.rd S (i := 0) rfl (by omega) (by omega); trace "ALT law_WaysShortest 20.10.1 2") | (exact boxM.rd S (i := 0) rfl rfl; trace "ALT law_WaysShortest 20.10.1 3") | (exact boxM.rd S (i := 1) rfl rfl; trace "ALT law_WaysShortest 20.10.1 4") | (exact boxM.rd S (i := 2) rfl rfl; trace "ALT law_WaysShortest 20.10.1 5") | (exact boxM.rd S (i := 3) rfl rfl; trace "ALT law_WaysShortest 20.10.1 6"))) ?_;clear H a;intro a H
                                     exact sF H <| sy hg2 <| sr 1 rfl <| sy hg2 <| sr 1 rfl <| sg 14 12 183 197 true rfl rfl (fun hg13 => by
                                        have hq13 := hg13;try simp only [o1,o2,o3,o4,o5,o6,o7,o8,o9,oa] at hq13
                                        exact sy hg13 <| sK fun a H => by
                                              refine still_does H rfl ((by first | (exact does_field_pt fo_25_1 rfl; trace "ALT law_WaysShortest 20.13.1 0") | (exact does_field fo_25_1 rfl; trace "ALT law_WaysShortest 20.13.1 1"))) ?_;clear H a;intro a H
                                              exact sF H <| sy hg13 <| sK fun a H => by
                                                  refine still_does H rfl (does_load one_22 rfl (by first | (exact hl.rd S (by omega) (by omega); trace "ALT law_WaysShortest 20.14.1 0") | (exact hps.rd S (by omega) (by omega); trace "ALT law_WaysShortest 20.14.1 1") | (exact ownM.rd S (i := 0) rfl (by omega) (by omega); trace "ALT law_WaysShortest 20.14.1 2") | (exact boxM.rd S (i := 0) rfl rfl; trace "ALT law_WaysShortest 20.14.1 3") | (exact boxM.rd S (i := 1) rfl rfl; trace "ALT law_WaysShortest 20.14.1 4") | (exact boxM.rd S (i := 2) rfl rfl; trace "ALT law_WaysShortest 20.14.1 5") | (exact boxM.rd S (i := 3) rfl rfl; trace "ALT law_WaysShortest 20.14.1 6"))) ?_;clear H a;intro a H
                                                  exact sF H <| sy hg13 <| sr 1 rfl <| sy hg13 <| sr 1 rfl <| sy hg13 <| sK fun a H => by
                                                      refine still_does H rfl (by first | (exact does_indexN sl_41 sz_3 rfl rfl (by first | (exact hl.adr (by omega); trace "ALT law_WaysShortest 20.17.1 0") | (exact hps.adr (by omega); trace "ALT law_WaysShortest 20.17.1 1") | (exact ownM.adr S (i := 0) rfl (by omega); trace "ALT law_WaysShortest 20.17.1 2")) (by omega); trace "ALT law_WaysShortest 20.17.3 0") | (exact does_index sl_41 sz_3 rfl rfl (by first | (exact hl.adr (by omega); trace "ALT law_WaysShortest 20.17.1 0") | (exact hps.adr (by omega); trace "ALT law_WaysShortest 20.17.1 1") | (exact ownM.adr S (i := 0) rfl (by omega); trace "ALT law_WaysShortest 20.17.1 2")) (by omega) (by omega); trace "ALT law_WaysShortest 20.17.3 1")) ?_;clear H a;intro a H
                                                      exact sF H <| sy hg13 <| sK fun a H => by
                                                          refine still_does H rfl (does_load one_3 rfl (by first | (exact hl.rd S (by omega) (by omega); trace "ALT law_WaysShortest 20.18.1 0") | (exact hps.rd S (by omega) (by omega); trace "ALT law_WaysShortest 20.18.1 1") | (exact ownM.rd S (i := 0) rfl (by omega) (by omega); trace "ALT law_WaysShortest 20.18.1 2") | (exact boxM.rd S (i := 0) rfl rfl; trace "ALT law_WaysShortest 20.18.1 3") | (exact boxM.rd S (i := 1) rfl rfl; trace "ALT law_WaysShortest 20.18.1 4") | (exact boxM.rd S (i := 2) rfl rfl; trace "ALT law_WaysShortest 20.18.1 5") | (exact boxM.rd S (i := 3) rfl rfl; trace "ALT law_WaysShortest 20.18.1 6"))) ?_;clear H a;intro a H
                                                          exact sF H <| sy hg13 <| sK fun a H => by
                                                              refine still_does H rfl (by first | (exact does_indexN sl_22 sz_45 rfl rfl (by first | (exact hl.adr (by omega); trace "ALT law_WaysShortest 20.19.1 0") | (exact hps.adr (by omega); trace "ALT law_WaysShortest 20.19.1 1") | (exact ownM.adr S (i := 0) rfl (by omega); trace "ALT law_WaysShortest 20.19.1 2")) (by omega); trace "ALT law_WaysShortest 20.19.3 0") | (exact does_index sl_22 sz_45 rfl rfl (by first | (exact hl.adr (by omega); trace "ALT law_WaysShortest 20.19.1 0") | (exact hps.adr (by omega); trace "ALT law_WaysShortest 20.19.1 1") | (exact ownM.adr S (i := 0) rfl (by omega); trace "ALT law_WaysShortest 20.19.1 2")) (by omega) (by omega); trace "ALT law_WaysShortest 20.19.3 1")) ?_;clear H a;intro a H
                                                              exact sF H <| sy hg13 <| sK fun a H => by
                                                                  refine still_does H rfl ((by first | (exact does_field_pt fo_45_5 rfl; trace "ALT law_WaysShortest 20.20.1 0") | (exact does_field fo_45_5 rfl; trace "ALT law_WaysShortest 20.20.1 1"))) ?_;clear H a;intro a H
                                                                  exact sF H <| sy hg13 <| sK fun a H => by
                                                                      refine still_does H rfl (does_load one_3 rfl (by first | (exact hl.rd S (by omega) (by omega); trace "ALT law_WaysShortest 20.21.1 0") | (exact hps.rd S (by omega) (by omega); trace "ALT law_WaysShortest 20.21.1 1") | (exact ownM.rd S (i := 0) rfl (by omega) (by omega); trace "ALT law_WaysShortest 20.21.1 2") | (exact boxM.rd S (i := 0) rfl rfl; trace "ALT law_WaysShortest 20.21.1 3") | (exact boxM.rd S (i := 1) rfl rfl; trace "ALT law_WaysShortest 20.21.1 4") | (exact boxM.rd S (i := 2) rfl rfl; trace "ALT law_WaysShortest 20.21.1 5") | (exact boxM.rd S (i := 3) rfl rfl; trace "ALT law_WaysShortest 20.21.1 6"))) ?_;clear H a;intro a H
                                                                      exact sF H <| sy hg13 <| sr 1 rfl <| sy hg13 <| sr 1 rfl <| sy hg13 <| sK fun a H => by
                                                                          refine still_does H rfl (by first | (exact does_indexN sl_23 sz_3 rfl rfl (by first | (exact hl.adr (by omega); trace "ALT law_WaysShortest 20.24.1 0") | (exact hps.adr (by omega); trace "ALT law_WaysShortest 20.24.1 1") | (exact ownM.adr S (i := 0) rfl (by omega); trace "ALT law_WaysShortest 20.24.1 2")) (by omega); trace "ALT law_WaysShortest 20.24.3 0") | (exact does_index sl_23 sz_3 rfl rfl (by first | (exact hl.adr (by omega); trace "ALT law_WaysShortest 20.24.1 0") | (exact hps.adr (by omega); trace "ALT law_WaysShortest 20.24.1 1") | (exact ownM.adr S (i := 0) rfl (by omega); trace "ALT law_WaysShortest 20.24.1 2")) (by omega) (by omega); trace "ALT law_WaysShortest 20.24.3 1")) ?_;clear H a;intro a H
                                                                          exact sF H <| sy hg13 <| sK fun a H => by
                                                                              refine still_does H rfl (does_load one_3 rfl (by first | (exact hl.rd S (by omega) (by omega); trace "ALT law_WaysShortest 20.25.1 0") | (exact hps.rd S (by omega) (by omega); trace "ALT law_WaysShortest 20.25.1 1") | (exact ownM.rd S (i := 0) rfl (by omega) (by omega); trace "ALT law_WaysShortest 20.25.1 2") | (exact boxM.rd S (i := 0) rfl rfl; trace "ALT law_WaysShortest 20.25.1 3") | (exact boxM.rd S (i := 1) rfl rfl; trace "ALT law_WaysShortest 20.25.1 4") | (exact boxM.rd S (i := 2) rfl rfl; trace "ALT law_WaysShortest 20.25.1 5") | (exact boxM.rd S (i := 3) rfl rfl; trace "ALT law_WaysShortest 20.25.1 6"))) ?_;clear H a;intro a H
                                                                              exact sF H <| sy hg13 <| sr 1 rfl <| sz 14 rfl rfl rfl) <| sy hg2 <| sK fun a H => by
                                         refine still_does H rfl ((by first | (exact does_and rfl rfl rfl; trace "ALT law_WaysShortest 20.27.1 0") | (exact does_pick rfl rfl rfl; trace "ALT law_WaysShortest 20.27.1 1"))) ?_;clear H a;intro a H
                                         exact sF H <| sz 13 rfl rfl rfl) <| sK ?_;clear H a;intro a H
   refine still_does H rfl ((by first | (exact does_or rfl rfl rfl; trace "ALT law_WaysShortest 20.28.1 0") | (exact does_pick rfl rfl rfl; trace "ALT law_WaysShortest 20.28.1 1"))) ?_;clear H a;intro a H
   refine sF H <| sr 1 rfl <| sE ?_;clear H a;intro a H
   refine k28 _ _ ?_
   replace H := H.keep [2, 3, 4, 7, 11, 14, 16, 17, 18] rfl
   refine sO H <| sr 1 rfl <| sd (does_add rfl rfl (by unfold i64ok; omega)) <| sr 1 rfl <| sE ?_;clear H a;intro a H
   exact k25 (g2 - 1) (k + 1, _) a _ (by omega) (⟨by omega, by omega, nf_next hp.2.2 and_no⟩) (S.sel [0, 1, 2, 3] rfl rfl) (H.keep [17, 18, 2, 3, 4, 7, 11, 14, 16] rfl)
  refine wp_exit ?_
  refine k23 _ _ ?_
  refine sS H fun K31 k31=>sr 2 rfl <| sE ?_;clear H a;intro a H
  refine k31 _ ?_;clear k31 K31
  refine cond_ H rfl (fun hc7 => ?_) (fun hc7 => ?_)
  ·skip
   try simp only [o1,o2,o3,o4,o5,o6,o7,o8,o9,oa] at hc7
   exfalso
   obtain ⟨q, hq1, hq2⟩ := hS.need hc5.2 i (by omega)
   exact hp.2.2 hc7 q (by omega) hq2
  try simp only [o1,o2,o3,o4,o5,o6,o7,o8,o9,oa] at hc7
  refine wp_skip ?_
  refine k21 _ _ ?_
  refine sO H <| sr 1 rfl <| sd (does_add rfl rfl (by unfold i64ok; omega)) <| sr 1 rfl <| sE ?_;clear H a;intro a H
  exact k18 (g1 - 1) (i + 1) a _ (by omega) (⟨by omega, by omega⟩) (S.sel [0, 1, 2, 3] rfl rfl) (H.keep [16, 2, 3, 4, 7, 11, 14] rfl)
 try simp only [o1,o2,o3,o4,o5,o6,o7,o8,o9,oa] at hc5
 refine wp_exit ?_
 refine k16 _ _ ?_
 replace H := H.keep [3, 4, 7] rfl
 refine seq_list fun K33 k33 => ?_
 refine list_does H rfl ((by first | (exact does_loadBox agg_25 sz_25 rfl S (i := 0) rfl rfl; trace "ALT law_WaysShortest 23.0.1 0") | (exact does_loadBox agg_25 sz_25 rfl S (i := 1) rfl rfl; trace "ALT law_WaysShortest 23.0.1 1") | (exact does_loadBox agg_25 sz_25 rfl S (i := 2) rfl rfl; trace "ALT law_WaysShortest 23.0.1 2") | (exact does_loadBox agg_25 sz_25 rfl S (i := 3) rfl rfl; trace "ALT law_WaysShortest 23.0.1 3"))) ?_;clear H a;intro a H
 refine list_does H rfl ((by first | (exact does_field_pt fo_27_0 rfl; trace "ALT law_WaysShortest 23.1.1 0") | (exact does_field fo_27_0 rfl; trace "ALT law_WaysShortest 23.1.1 1"))) ?_;clear H a;intro a H
 refine list_does H rfl (does_load one_3 rfl (by first | (exact hl.rd S (by omega) (by omega); trace "ALT law_WaysShortest 23.2.1 0") | (exact hps.rd S (by omega) (by omega); trace "ALT law_WaysShortest 23.2.1 1") | (exact ownM.rd S (i := 0) rfl (by omega) (by omega); trace "ALT law_WaysShortest 23.2.1 2") | (exact boxM.rd S (i := 0) rfl rfl; trace "ALT law_WaysShortest 23.2.1 3") | (exact boxM.rd S (i := 1) rfl rfl; trace "ALT law_WaysShortest 23.2.1 4") | (exact boxM.rd S (i := 2) rfl rfl; trace "ALT law_WaysShortest 23.2.1 5") | (exact boxM.rd S (i := 3) rfl rfl; trace "ALT law_WaysShortest 23.2.1 6"))) ?_;clear H a;intro a H
 refine list_does H rfl ((by first | (exact does_field_pt fo_27_2 rfl; trace "ALT law_WaysShortest 23.3.1 0") | (exact does_field fo_27_2 rfl; trace "ALT law_WaysShortest 23.3.1 1"))) ?_;clear H a;intro a H
 refine list_does H rfl (does_load one_3 rfl (by first | (exact hl.rd S (by omega) (by omega); trace "ALT law_WaysShortest 23.4.1 0") | (exact hps.rd S (by omega) (by omega); trace "ALT law_WaysShortest 23.4.1 1") | (exact ownM.rd S (i := 0) rfl (by omega) (by omega); trace "ALT law_WaysShortest 23.4.1 2") | (exact boxM.rd S (i := 0) rfl rfl; trace "ALT law_WaysShortest 23.4.1 3") | (exact boxM.rd S (i := 1) rfl rfl; trace "ALT law_WaysShortest 23.4.1 4") | (exact boxM.rd S (i := 2) rfl rfl; trace "ALT law_WaysShortest 23.4.1 5") | (exact boxM.rd S (i := 3) rfl rfl; trace "ALT law_WaysShortest 23.4.1 6"))) ?_;clear H a;intro a H
 refine list_does H rfl ((by first | (exact does_field_pt fo_27_3 rfl; trace "ALT law_WaysShortest 23.5.1 0") | (exact does_field fo_27_3 rfl; trace "ALT law_WaysShortest 23.5.1 1"))) ?_;clear H a;intro a H
 refine list_does H rfl (does_load one_3 rfl (by first | (exact hl.rd S (by omega) (by omega); trace "ALT law_WaysShortest 23.6.1 0") | (exact hps.rd S (by omega) (by omega); trace "ALT law_WaysShortest 23.6.1 1") | (exact ownM.rd S (i := 0) rfl (by omega) (by omega); trace "ALT law_WaysShortest 23.6.1 2") | (exact boxM.rd S (i := 0) rfl rfl; trace "ALT law_WaysShortest 23.6.1 3") | (exact boxM.rd S (i := 1) rfl rfl; trace "ALT law_WaysShortest 23.6.1 4") | (exact boxM.rd S (i := 2) rfl rfl; trace "ALT law_WaysShortest 23.6.1 5") | (exact boxM.rd S (i := 3) rfl rfl; trace "ALT law_WaysShortest 23.6.1 6"))) ?_;clear H a;intro a H
 refine list_call H rfl rfl Try.func21 rfl rfl (ret_imp (ways_Way P ps PA pc xs XA xc out true fr to _ (hps.now S) hpn (hxs.now S) hxn) (fun u w' h => way_form h)) ?_;clear H a
 rintro _ _ a ⟨A7, c7, rfl, _, S2⟩ H
 replace S := S.call S2;clear S2
 refine ls 7 H <| sr 7 rfl <| sE ?_;clear H a;intro a H
 refine k33 _ _ ?_;clear k33 K33
 replace H := H.keep [3, 4, 7, 19, 21] rfl
 refine seq_list fun K34 k34 => ?_
 refine list_does H rfl ((by first | (exact does_loadBox agg_25 sz_25 rfl S (i := 0) rfl rfl; trace "ALT law_WaysShortest 24.0.1 0") | (exact does_loadBox agg_25 sz_25 rfl S (i := 1) rfl rfl; trace "ALT law_WaysShortest 24.0.1 1") | (exact does_loadBox agg_25 sz_25 rfl S (i := 2) rfl rfl; trace "ALT law_WaysShortest 24.0.1 2") | (exact does_loadBox agg_25 sz_25 rfl S (i := 3) rfl rfl; trace "ALT law_WaysShortest 24.0.1 3") | (exact does_loadBox agg_25 sz_25 rfl S (i := 4) rfl rfl; trace "ALT law_WaysShortest 24.0.1 4"))) ?_;clear H a;intro a H
 refine list_does H rfl ((by first | (exact does_field_pt fo_27_1 rfl; trace "ALT law_WaysShortest 24.1.1 0") | (exact does_field fo_27_1 rfl; trace "ALT law_WaysShortest 24.1.1 1"))) ?_;clear H a;intro a H
 refine list_does H rfl (does_load one_4 rfl (by first | (exact hl.rd S (by omega) (by omega); trace "ALT law_WaysShortest 24.2.1 0") | (exact hps.rd S (by omega) (by omega); trace "ALT law_WaysShortest 24.2.1 1") | (exact ownM.rd S (i := 1) rfl (by omega) (by omega); trace "ALT law_WaysShortest 24.2.1 2") | (exact boxM.rd S (i := 0) rfl rfl; trace "ALT law_WaysShortest 24.2.1 3") | (exact boxM.rd S (i := 1) rfl rfl; trace "ALT law_WaysShortest 24.2.1 4") | (exact boxM.rd S (i := 2) rfl rfl; trace "ALT law_WaysShortest 24.2.1 5") | (exact boxM.rd S (i := 3) rfl rfl; trace "ALT law_WaysShortest 24.2.1 6") | (exact boxM.rd S (i := 4) rfl rfl; trace "ALT law_WaysShortest 24.2.1 7"))) ?_;clear H a;intro a H
 refine list_does H rfl ((by first | (exact does_field_pt fo_27_2 rfl; trace "ALT law_WaysShortest 24.3.1 0") | (exact does_field fo_27_2 rfl; trace "ALT law_WaysShortest 24.3.1 1"))) ?_;clear H a;intro a H
 refine list_does H rfl (does_load one_3 rfl (by first | (exact hl.rd S (by omega) (by omega); trace "ALT law_WaysShortest 24.4.1 0") | (exact hps.rd S (by omega) (by omega); trace "ALT law_WaysShortest 24.4.1 1") | (exact ownM.rd S (i := 1) rfl (by omega) (by omega); trace "ALT law_WaysShortest 24.4.1 2") | (exact boxM.rd S (i := 0) rfl rfl; trace "ALT law_WaysShortest 24.4.1 3") | (exact boxM.rd S (i := 1) rfl rfl; trace "ALT law_WaysShortest 24.4.1 4") | (exact boxM.rd S (i := 2) rfl rfl; trace "ALT law_WaysShortest 24.4.1 5") | (exact boxM.rd S (i := 3) rfl rfl; trace "ALT law_WaysShortest 24.4.1 6") | (exact boxM.rd S (i := 4) rfl rfl; trace "ALT law_WaysShortest 24.4.1 7"))) ?_;clear H a;intro a H
 refine list_does H rfl ((by first | (exact does_field_pt fo_27_3 rfl; trace "ALT law_WaysShortest 24.5.1 0") | (exact does_field fo_27_3 rfl; trace "ALT law_WaysShortest 24.5.1 1"))) ?_;clear H a;intro a H
 refine list_does H rfl (does_load one_3 rfl (by first | (exact hl.rd S (by omega) (by omega); trace "ALT law_WaysShortest 24.6.1 0") | (exact hps.rd S (by omega) (by omega); trace "ALT law_WaysShortest 24.6.1 1") | (exact ownM.rd S (i := 1) rfl (by omega) (by omega); trace "ALT law_WaysShortest 24.6.1 2") | (exact boxM.rd S (i := 0) rfl rfl; trace "ALT law_WaysShortest 24.6.1 3") | (exact boxM.rd S (i := 1) rfl rfl; trace "ALT law_WaysShortest 24.6.1 4") | (exact boxM.rd S (i := 2) rfl rfl; trace "ALT law_WaysShortest 24.6.1 5") | (exact boxM.rd S (i := 3) rfl rfl; trace "ALT law_WaysShortest 24.6.1 6") | (exact boxM.rd S (i := 4) rfl rfl; trace "ALT law_WaysShortest 24.6.1 7"))) ?_;clear H a;intro a H
 refine list_call H rfl rfl Try.func21 rfl rfl (ret_imp (ways_Way P ps PA pc xs XA xc 0 help fr to _ (hps.now S) hpn (hxs.now S) hxn) (fun u w' h => way_form h)) ?_;clear H a
 rintro _ _ a ⟨A9, c9, rfl, _, S2⟩ H
 replace S := S.call S2;clear S2
 refine ls 7 H <| sr 7 rfl <| sE ?_;clear H a;intro a H
 refine k34 _ _ ?_;clear k34 K34
 replace H := H.keep [7, 19, 21, 22, 24] rfl
 refine seq_list fun K35 k35 => ?_
 refine ls 5 H <| sr 1 rfl <| sd (does_eq_t rfl rfl hS.helped.1) <| sr 1 rfl <| sy rfl <| sr 1 rfl <| sy rfl <| sd (does_eq_t rfl rfl hS.whole.1) <| sE ?_;clear H a;intro a H
 refine list_does H rfl ((by first | (exact does_and rfl rfl rfl; trace "ALT law_WaysShortest 25.5.1 0") | (exact does_pick rfl rfl rfl; trace "ALT law_WaysShortest 25.5.1 1"))) ?_;clear H a;intro a H
 refine ls 4 H <| sr 1 rfl <| sy rfl <| sr 1 rfl <| sy rfl <| sr 1 rfl <| sy rfl <| sd (does_le_t rfl rfl hS.helped.2) <| sE ?_;clear H a;intro a H
 refine list_does H rfl ((by first | (exact does_and rfl rfl rfl; trace "ALT law_WaysShortest 25.10.1 0") | (exact does_pick rfl rfl rfl; trace "ALT law_WaysShortest 25.10.1 1"))) ?_;clear H a;intro a H
 refine ls 4 H <| sr 1 rfl <| sy rfl <| sr 1 rfl <| sy rfl <| sr 1 rfl <| sy rfl <| sd (does_le_t rfl rfl hS.whole.2) <| sE ?_;clear H a;intro a H
 refine list_does H rfl ((by first | (exact does_and rfl rfl rfl; trace "ALT law_WaysShortest 25.15.1 0") | (exact does_pick rfl rfl rfl; trace "ALT law_WaysShortest 25.15.1 1"))) ?_;clear H a;intro a H
 refine ls 1 H <| sr 1 rfl <| sE ?_;clear H a;intro a H
 refine list_yes H rfl rfl ?_
 refine list_call H rfl rfl Try.func15 rfl rfl (law_works _) ?_;clear H a
 rintro _ _ a ⟨rfl, S2⟩ H
 replace S := S.call S2;clear S2
 refine list_does H rfl ((by first | (exact does_and rfl rfl rfl; trace "ALT law_WaysShortest 25.18.1 0") | (exact does_pick rfl rfl rfl; trace "ALT law_WaysShortest 25.18.1 1"))) ?_;clear H a;intro a H
 refine ls 1 H <| sr 1 rfl <| sE ?_;clear H a;intro a H
 refine k35 _ _ ?_;clear k35 K35
 refine wp_ret ?_
 refine ret1 (fn := Try.f5) rfl H rfl ?_
 exact ⟨rfl, (S.sel [] rfl rfl)⟩

end Go.Proofs.Ytlmddkekeoebcaa
