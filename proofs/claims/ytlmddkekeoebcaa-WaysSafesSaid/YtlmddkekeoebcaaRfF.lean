/- RfF. Printed by gen.py. -/
import Derived.Test.YtlmddkekeoebcaaRfD
import Derived.Test.YtlmddkekeoebcaaRwF
import Derived.Test.YtlmddkekeoebcaaWyM
import Derived.Test.YtlmddkekeoebcaaRwC
namespace Go.Proofs.Ytlmddkekeoebcaa
open Go.RowKit
set_option linter.unusedVariables false
set_option linter.unusedSimpArgs false
set_option maxRecDepth 100000
set_option maxHeartbeats 4000000


section
variable {P T : Nat} {ps : List Psg} {xs : List Int} {out : Int} {pe : List Int} {m : Nat} {v : Int}
theorem all_t (h : mfv P T pe xs (hds out xs ps) = v) (h2 : v = sumI pe pe.length) : allB P T ps xs out pe = true := by unfold allB; exact decide_eq_true (by rw [h, h2])
theorem all_f (h : mfv P T pe xs (hds out xs ps) = v) (h2 : ¬ v = sumI pe pe.length) : allB P T ps xs out pe = false := by unfold allB; exact decide_eq_false (by rw [h]; exact h2)
theorem must_t (h : mfv P T pe xs (hds (out + 2 ^ m) xs ps) = v) (h2 : ¬ v = sumI pe pe.length) : mustB P T ps xs out pe m = true := by unfold mustB; rw [all_f h h2]; rfl
theorem must_f (h : mfv P T pe xs (hds (out + 2 ^ m) xs ps) = v) (h2 : v = sumI pe pe.length) : mustB P T ps xs out pe m = false := by unfold mustB allB; rw [decide_eq_true (by rw [h, h2])]; rfl
end


theorem ref_Safe (pl : Int) (ps : List Psg) (PA : Option Addr) (pc : Nat) (xs : List Int) (XA : Option Addr) (xc : Nat) (day : List Hq) (HA : Option Addr) (hcp : Nat) (DA : Nat → Option Addr) (dc : Nat → Nat) (T0 : Int) (w : World) (hps : InS w noF 7 PA ps.length (pcell ps)) (hpn : ps.length ≤ 9223372036854775807) (hxs : InS w noF 1 XA xs.length (icl xs)) (hxn : xs.length ≤ 9223372036854775807) (hday : InS w noF 3 HA day.length (hcl day DA dc)) (hdn : day.length ≤ 9223372036854775807) (hdp : ∀ k, k < day.length → InS w noF 1 (DA k) (day.getD k Hq.zero).pe.length (icl (day.getD k Hq.zero).pe)) (hdl : ∀ k, k < day.length → (day.getD k Hq.zero).pe.length ≤ 9223372036854775807) :
    Calls Try.prog 47 [.agg [.int .i64 pl, .slice PA ps.length pc, .slice XA xs.length xc].toArray, .slice HA day.length hcp, .int .i64 T0].toArray w (Ret (fun u w' => u = .tuple #[.int .i64 (safeV pl ps xs day T0).1, .bool (safeV pl ps xs day T0).2.1, .int .i64 (safeV pl ps xs day T0).2.2] ∧ St w noF [] w')) := by
 refine enter Try.func47 rfl Try.ntmps47 rfl (fun a H => ?_)
 have S := St.start w
 refine seq_list fun K1 k1 => ?_
 refine list_box H rfl S rfl rfl ?_;clear H a S;intro b3 _ a hb3 hbw3 S H
 refine ls 3 H <| sr 3 rfl <| sE ?_;clear H a;intro a H
 refine k1 _ _ ?_;clear k1 K1
 refine seq_list fun K2 k2 => ?_
 refine ls 2 H <| sd ((does_loadBox agg_25 sz_25 rfl S (i := 0) rfl rfl)) <| sr 1 rfl <| sE ?_;clear H a;intro a H
 refine list_call H rfl rfl Try.func81 rfl rfl (ref_CheckDay pl ps PA pc xs XA xc day HA hcp DA dc _ (hps.now S) hpn (hxs.now S) hxn (hday.now S) hdn (fun k hk => (hdp k hk).now S) hdl) ?_;clear H a
 rintro _ _ a ⟨rfl, S2⟩ H
 replace S := S.call S2;clear S2
 refine ls 1 H <| sr 1 rfl <| sE ?_;clear H a;intro a H
 refine k2 _ _ ?_;clear k2 K2
 refine wp_seq_k fun K3 k3 => ?_
 replace H := H.keep [1, 2, 3, 9] rfl
 refine sS H fun K4 k4=>sr 2 rfl <| sE ?_;clear H a;intro a H
 refine k4 _ ?_;clear k4 K4
 refine condN H rfl (fun hc1 => ?_) (fun hc1 => ?_)
 ·skip
  refine sS H fun K5 k5=>sr 4 rfl <| sE ?_;clear H a;intro a H
  refine k5 _ ?_;clear k5 K5
  refine wp_ret ?_
  refine ret3 (fn := Try.f47) rfl H rfl rfl rfl ?_
  rw [safe_err hc1]
  exact ⟨rfl, (S.sel [] rfl rfl)⟩
 have hdE : dayE pl ps xs day = 0 := by omega
 obtain ⟨hst, hdk⟩ := dayE_ok hdE
 have hdk := dayOk_ok hdk
 have hV0 := st_valid hst
 obtain ⟨P, rfl⟩ : ∃ P : Nat, pl = P := ⟨pl.toNat, by have := hV0.size; omega⟩
 have hV := hV0
 have hP10 := hV.size
 refine wp_skip ?_
 refine k3 _ _ ?_
 refine wp_seq_k fun K6 k6 => ?_
 refine sS H fun K7 k7=>sr 1 rfl <| sc rfl Try.func56 rfl rfl (ref_from _ _ _ _) <| sr 1 rfl <| sE ?_;clear H a;intro a H
 refine k7 _ ?_;clear k7 K7
 refine cond_ H rfl (fun hc2 => ?_) (fun hc2 => ?_)
 ·skip
  try simp only [o1,o2,o3,o4,o5,o6,o7,o8,o9,oa] at hc2
  replace H := H.keep [] rfl
  refine sS H fun K8 k8=>sr 3 rfl <| sE ?_;clear H a;intro a H
  refine k8 _ ?_;clear k8 K8
  refine wp_ret ?_
  refine ret3 (fn := Try.f47) rfl H rfl rfl rfl ?_
  rw [safe_arg hdE (by omega)]
  exact ⟨rfl, (S.sel [] rfl rfl)⟩
 try simp only [o1,o2,o3,o4,o5,o6,o7,o8,o9,oa] at hc2
 obtain ⟨T, rfl⟩ : ∃ T : Nat, T0 = T := ⟨T0.toNat, by omega⟩
 have hT : T ≤ 60 := by omega
 refine wp_skip ?_
 refine k6 _ _ ?_
 refine wp_seq_k fun K9 k9 => ?_
 refine sS H fun K10 k10=>sr 1 rfl <| sE ?_;clear H a;intro a H
 refine k10 _ ?_;clear k10 K10
 refine wp_block ?_
 refine loop_st (X := Nat) (R0 := _) [1, 2, 3] H rfl (fun h => [(10, .int .i64 (h : Int))]) (fun h => []) (fun g h => h ≤ day.length ∧ g + h = day.length ∧ ∀ q, q < h → allB P T ps xs (day.getD q Hq.zero).out (day.getD q Hq.zero).pe = true) (day.length) 0 ?_ (S.sel [0] rfl rfl) (H.keep [10, 1, 2, 3] rfl) ?_
 · exact ⟨by omega, by omega, fun q hq => absurd hq (Nat.not_lt_zero q)⟩
 clear H S a
 intro g1 x1 a w1 hp S H K11 k11
 obtain ⟨h, rfl⟩ : ∃ y, y = x1 := ⟨_, rfl⟩
 refine wp_seq_k fun K12 k12 => ?_
 refine sS H fun K13 k13=>sr 2 rfl <| sL sl_65 rfl <| sr 1 rfl <| sE ?_;clear H a;intro a H
 refine k13 _ ?_;clear k13 K13
 refine condL H rfl (fun hc3 => ?_) (fun hc3 => ?_)
 ·skip
  refine wp_skip ?_
  refine k12 _ _ ?_
  refine wp_seq_k fun K14 k14 => ?_
  refine wp_block ?_
  have hdo := hdk.2 h (by omega)
  obtain ⟨hpp, hpl⟩ := crowd_ok hdo.2
  replace H := H.keep [1, 2, 3, 10] rfl
  replace S := S.drew
  refine seq_wt 999 (.q 0 (.p 1 (.p 2 (.p 3 (.p 4 (.q 5 (.p 6 (.p 7 (.p 8 (.p 9 (.q 10 (.p 11 (.p 16 (.p 17 (.p 18 (.p 19 (.q 20 (.e 12 (.p 13 (.p 14 (.b2 15 (.e 21 (.p 22 .nil)) 21 (.e 15 (.p 22 .nil))))))))))))))))))))))) (by kernel_rfl) (by kernel_rfl) (S.sel [0] rfl rfl) fun K15 k15 => ?_
  refine wt_does H rfl rfl (fun _ S => (does_loadBox agg_25 sz_25 rfl S (i := 0) rfl rfl)) ?_;clear H a;intro a H
  refine wt_pure H rfl rfl (fun _ => does_move rfl) ?_;clear H a;intro a H
  refine wt_pure H rfl rfl (fun _ => does_move rfl) ?_;clear H a;intro a H
  refine wt_pure H rfl rfl (fun _ => by first | (exact does_indexN sl_65 sz_74 rfl rfl (hday.adr (by omega)) (by omega); trace "ALT ref_Safe 9.3.3 0") | (exact does_index sl_65 sz_74 rfl rfl (hday.adr (by omega)) (by omega) (by omega); trace "ALT ref_Safe 9.3.3 1")) ?_;clear H a;intro a H
  refine wt_pure H rfl rfl (fun _ => (by first | (exact does_field_pt fo_74_0 rfl; trace "ALT ref_Safe 9.4.1 0") | (exact does_field fo_74_0 rfl; trace "ALT ref_Safe 9.4.1 1"))) ?_;clear H a;intro a H
  refine wt_does H rfl rfl (fun _ S => does_load one_3 rfl (by first | (exact hday.rd S (by omega) (by omega); trace "ALT ref_Safe 9.5.1 0") | (exact boxM.rd S (i := 0) rfl rfl; trace "ALT ref_Safe 9.5.1 1"))) ?_;clear H a;intro a H
  refine wt_pure H rfl rfl (fun _ => does_move rfl) ?_;clear H a;intro a H
  refine wt_pure H rfl rfl (fun _ => does_move rfl) ?_;clear H a;intro a H
  refine wt_pure H rfl rfl (fun _ => by first | (exact does_indexN sl_65 sz_74 rfl rfl (hday.adr (by omega)) (by omega); trace "ALT ref_Safe 9.8.3 0") | (exact does_index sl_65 sz_74 rfl rfl (hday.adr (by omega)) (by omega) (by omega); trace "ALT ref_Safe 9.8.3 1")) ?_;clear H a;intro a H
  refine wt_pure H rfl rfl (fun _ => (by first | (exact does_field_pt fo_74_2 rfl; trace "ALT ref_Safe 9.9.1 0") | (exact does_field fo_74_2 rfl; trace "ALT ref_Safe 9.9.1 1"))) ?_;clear H a;intro a H
  refine wt_does H rfl rfl (fun _ S => does_load one_23 rfl (by first | (exact hday.rd S (by omega) (by omega); trace "ALT ref_Safe 9.10.1 0") | (exact boxM.rd S (i := 0) rfl rfl; trace "ALT ref_Safe 9.10.1 1"))) ?_;clear H a;intro a H
  refine wt_pure H rfl rfl (fun _ => does_move rfl) ?_;clear H a;intro a H
  refine wt_pure H rfl rfl (fun _ => does_move rfl) ?_;clear H a;intro a H
  refine wt_pure H rfl rfl (fun _ => does_move rfl) ?_;clear H a;intro a H
  refine wt_pure H rfl rfl (fun _ => by first | (exact does_indexN sl_65 sz_74 rfl rfl (hday.adr (by omega)) (by omega); trace "ALT ref_Safe 9.18.3 0") | (exact does_index sl_65 sz_74 rfl rfl (hday.adr (by omega)) (by omega) (by omega); trace "ALT ref_Safe 9.18.3 1")) ?_;clear H a;intro a H
  refine wt_pure H rfl rfl (fun _ => (by first | (exact does_field_pt fo_74_2 rfl; trace "ALT ref_Safe 9.19.1 0") | (exact does_field fo_74_2 rfl; trace "ALT ref_Safe 9.19.1 1"))) ?_;clear H a;intro a H
  refine wt_does H rfl rfl (fun _ S => does_load one_23 rfl (by first | (exact hday.rd S (by omega) (by omega); trace "ALT ref_Safe 9.20.1 0") | (exact boxM.rd S (i := 0) rfl rfl; trace "ALT ref_Safe 9.20.1 1"))) ?_;clear H a;intro a H
  refine wt_eff rfl ?_
  refine list_call H rfl rfl Try.func72 rfl rfl (ref_leave P T ps PA pc xs XA xc (day.getD h Hq.zero).out (day.getD h Hq.zero).pe (DA h) (dc h) _ (hps.now S) hpn (hxs.now S) hxn ((hdp h (by omega)).now S) (by omega) hV hdo.1 hpp hT) ?_;clear H a
  rintro _ _ a ⟨b28, EA, ec, AA, A', c', r, v, L, rfl, hE, S2⟩ H
  replace S := S.call S2;clear S2
  have hmf := mfv_R hV hdo.1.1 hpp hE
  refine wpList_nil (And.intro (Or.inr (S.sel [4] rfl rfl)) ?_)
  refine wt_pure H rfl rfl (fun _ => does_nilCheck rfl) ?_;clear H a;intro a H
  refine wt_pure H rfl rfl (fun _ => (by first | (exact does_field_pt fo_124_4 rfl; trace "ALT ref_Safe 9.14.1 0") | (exact does_field fo_124_4 rfl; trace "ALT ref_Safe 9.14.1 1"))) ?_;clear H a;intro a H
  refine wt_b2 rfl rfl ?_ ?_
  ·skip
   refine list_does H rfl (does_load one_3 rfl (by first | (exact hday.rd S (by omega) (by omega); trace "ALT ref_Safe 9.15.1 0") | (exact boxM.rd S (i := 0) rfl rfl; trace "ALT ref_Safe 9.15.1 1") | (exact boxM.rd S (i := 1) rfl rfl; trace "ALT ref_Safe 9.15.1 2") | (exact boxM.rd S (i := 2) rfl rfl; trace "ALT ref_Safe 9.15.1 3") | (exact boxM.rd S (i := 3) rfl rfl; trace "ALT ref_Safe 9.15.1 4") | (exact boxM.rd S (i := 4) rfl rfl; trace "ALT ref_Safe 9.15.1 5"))) ?_;clear H a;intro a H
   refine wpList_nil (And.intro (Or.inr (S.sel [4] rfl rfl)) ?_)
   refine wt_eff rfl ?_
   refine list_call H rfl rfl Try.func78 rfl rfl (ref_sum (day.getD h Hq.zero).pe (DA h) (dc h) _ ((hdp h (by omega)).now S) hpp (by omega)) ?_;clear H a
   rintro _ _ a ⟨rfl, S2⟩ H
   replace S := S.call S2;clear S2
   refine wpList_nil (And.intro (Or.inr (S.sel [4] rfl rfl)) ?_)
   refine wt_pure H rfl rfl (fun _ => does_neq rfl rfl) ?_;clear H a;intro a H
   refine wt_nil ?_
   refine k15 _ _ ?_
   clear k15 K15
   refine condN H rfl (fun hc4 => ?_) (fun hc4 => ?_)
   ·skip
    replace H := H.keep [10] rfl
    refine sS H fun K16 k16=>sr 4 rfl <| sE ?_;clear H a;intro a H
    refine k16 _ ?_;clear k16 K16
    refine wp_ret ?_
    refine ret3 (fn := Try.f47) rfl H rfl rfl rfl ?_
    rw [safe_at hdE hT (by omega) hp.2.2 (all_f hmf (by omega))]
    exact ⟨rfl, (S.sel [] rfl rfl)⟩
   refine wp_skip ?_
   refine k14 _ _ ?_
   refine sO H <| sr 1 rfl <| sd (does_add rfl rfl (by unfold i64ok; omega)) <| sr 1 rfl <| sE ?_;clear H a;intro a H
   exact k11 (g1 - 1) (h + 1) a _ (by omega) (⟨by omega, by omega, safe_next (f := fun q => allB P T ps xs (day.getD q Hq.zero).out (day.getD q Hq.zero).pe) hp.2.2 (all_t hmf (by omega))⟩) (S.sel [4] rfl rfl) (H.keep [10, 1, 2, 3] rfl)
  ·skip
   refine list_call H rfl rfl Try.func78 rfl rfl (ref_sum (day.getD h Hq.zero).pe (DA h) (dc h) _ ((hdp h (by omega)).now S) hpp (by omega)) ?_;clear H a
   rintro _ _ a ⟨rfl, S2⟩ H
   replace S := S.call S2;clear S2
   refine wpList_nil (And.intro (Or.inr (S.sel [4] rfl rfl)) ?_)
   refine wt_eff rfl ?_
   refine list_does H rfl (does_load one_3 rfl (by first | (exact hday.rd S (by omega) (by omega); trace "ALT ref_Safe 9.15.2 0") | (exact boxM.rd S (i := 0) rfl rfl; trace "ALT ref_Safe 9.15.2 1") | (exact boxM.rd S (i := 1) rfl rfl; trace "ALT ref_Safe 9.15.2 2") | (exact boxM.rd S (i := 2) rfl rfl; trace "ALT ref_Safe 9.15.2 3") | (exact boxM.rd S (i := 3) rfl rfl; trace "ALT ref_Safe 9.15.2 4") | (exact boxM.rd S (i := 4) rfl rfl; trace "ALT ref_Safe 9.15.2 5"))) ?_;clear H a;intro a H
   refine wpList_nil (And.intro (Or.inr (S.sel [4] rfl rfl)) ?_)
   refine wt_pure H rfl rfl (fun _ => does_neq rfl rfl) ?_;clear H a;intro a H
   refine wt_nil ?_
   refine k15 _ _ ?_
   clear k15 K15
   refine condN H rfl (fun hc5 => ?_) (fun hc5 => ?_)
   ·skip
    replace H := H.keep [10] rfl
    refine sS H fun K18 k18=>sr 4 rfl <| sE ?_;clear H a;intro a H
    refine k18 _ ?_;clear k18 K18
    refine wp_ret ?_
    refine ret3 (fn := Try.f47) rfl H rfl rfl rfl ?_
    rw [safe_at hdE hT (by omega) hp.2.2 (all_f hmf (by omega))]
    exact ⟨rfl, (S.sel [] rfl rfl)⟩
   refine wp_skip ?_
   refine k14 _ _ ?_
   refine sO H <| sr 1 rfl <| sd (does_add rfl rfl (by unfold i64ok; omega)) <| sr 1 rfl <| sE ?_;clear H a;intro a H
   exact k11 (g1 - 1) (h + 1) a _ (by omega) (⟨by omega, by omega, safe_next (f := fun q => allB P T ps xs (day.getD q Hq.zero).out (day.getD q Hq.zero).pe) hp.2.2 (all_t hmf (by omega))⟩) (S.sel [4] rfl rfl) (H.keep [10, 1, 2, 3] rfl)
 refine wp_exit ?_
 refine k9 _ _ ?_
 replace H := H.keep [] rfl
 refine sS H fun K20 k20=>sr 3 rfl <| sE ?_;clear H a;intro a H
 refine k20 _ ?_;clear k20 K20
 refine wp_ret ?_
 refine ret3 (fn := Try.f47) rfl H rfl rfl rfl ?_
 obtain rfl : h = day.length := by omega
 rw [safe_all hdE hT hp.2.2]
 exact ⟨rfl, (S.sel [] rfl rfl)⟩

theorem ref_Must (pl : Int) (ps : List Psg) (PA : Option Addr) (pc : Nat) (xs : List Int) (XA : Option Addr) (xc : Nat) (out : Int) (pe : List Int) (BA : Option Addr) (bc : Nat) (T0 : Int) (w : World) (hps : InS w noF 7 PA ps.length (pcell ps)) (hpn : ps.length ≤ 9223372036854775807) (hxs : InS w noF 1 XA xs.length (icl xs)) (hxn : xs.length ≤ 9223372036854775807) (hpe : InS w noF 1 BA pe.length (icl pe)) (hpen : pe.length ≤ 9223372036854775807) :
    Calls Try.prog 48 [.agg [.int .i64 pl, .slice PA ps.length pc, .slice XA xs.length xc].toArray, .int .i64 out, .slice BA pe.length bc, .int .i64 T0].toArray w (Ret (fun u w' => ∃ A c, u = .tuple #[.slice A (mustV pl ps xs out pe T0).1.length c, .int .i64 (mustV pl ps xs out pe T0).2] ∧ St w noF [ownM 3 1 A (mustV pl ps xs out pe T0).1.length c (icl (mustV pl ps xs out pe T0).1)] w')) := by
 refine enter Try.func48 rfl Try.ntmps48 rfl (fun a H => ?_)
 have S := St.start w
 refine seq_list fun K1 k1 => ?_
 refine list_box H rfl S rfl rfl ?_;clear H a S;intro b4 _ a hb4 hbw4 S H
 refine ls 2 H <| sr 2 rfl <| sE ?_;clear H a;intro a H
 refine k1 _ _ ?_;clear k1 K1
 refine seq_list fun K2 k2 => ?_
 refine ls 4 H <| sd ((does_loadBox agg_25 sz_25 rfl S (i := 0) rfl rfl)) <| sr 3 rfl <| sE ?_;clear H a;intro a H
 refine list_call H rfl rfl Try.func29 rfl rfl (ref_CheckLeave pl ps PA pc xs XA xc out pe BA bc T0 _ (hps.now S) hpn (hxs.now S) hxn (hpe.now S) hpen) ?_;clear H a
 rintro _ _ a ⟨rfl, S2⟩ H
 replace S := S.call S2;clear S2
 refine ls 1 H <| sr 1 rfl <| sE ?_;clear H a;intro a H
 refine k2 _ _ ?_;clear k2 K2
 refine wp_seq_k fun K3 k3 => ?_
 replace H := H.keep [1, 2, 3, 4, 10] rfl
 refine sS H fun K4 k4=>sr 2 rfl <| sE ?_;clear H a;intro a H
 refine k4 _ ?_;clear k4 K4
 refine condN H rfl (fun hc1 => ?_) (fun hc1 => ?_)
 ·skip
  refine sS H fun K5 k5=>sr 3 rfl <| sE ?_;clear H a;intro a H
  refine k5 _ ?_;clear k5 K5
  refine wp_ret ?_
  refine ret2 (fn := Try.f48) rfl H rfl rfl ?_
  rw [must_err hc1]
  exact ⟨none, 0, rfl, (S.sel [] rfl rfl).newNil _ _ _⟩
 obtain ⟨hst, hou, hcr, hti⟩ := leaveE_ok hc1
 have hV0 := st_valid hst
 obtain ⟨P, rfl⟩ : ∃ P : Nat, pl = P := ⟨pl.toNat, by have := hV0.size; omega⟩
 have hV := hV0
 obtain ⟨hpp, hpl'⟩ := crowd_ok hcr
 have hpl : pe.length = P := by omega
 obtain ⟨T, rfl⟩ : ∃ T : Nat, T0 = T := ⟨T0.toNat, by omega⟩
 have hT : T ≤ 60 := by omega
 have hP10 := hV.size
 refine wp_skip ?_
 refine k3 _ _ ?_
 refine wp_seq_k fun K6 k6 => ?_
 have SR := (S.sel [0] rfl rfl)
 refine meet_sr (X := Unit) [1, 2, 3, 4] H rfl (fun x => [(32, .bool (!decide (mfv P T pe xs (hds out xs ps) = sumI pe pe.length)))]) (fun x => []) (fun x => True) SR (fun K7 k7 => ?_) ?_
 ·skip
  replace H := H.keep [1, 2, 3, 4] rfl
  replace S := S.drew
  refine one_wt 999 (.q 0 (.p 1 (.p 2 (.p 3 (.p 8 (.e 4 (.p 5 (.p 6 (.b2 7 (.e 9 (.p 10 .nil)) 9 (.e 7 (.p 10 .nil))))))))))) (by kernel_rfl) (by kernel_rfl) (S.sel [0] rfl rfl) ?_
  refine wt_does H rfl rfl (fun _ S => (does_loadBox agg_25 sz_25 rfl S (i := 0) rfl rfl)) ?_;clear H a;intro a H
  refine wt_pure H rfl rfl (fun _ => does_move rfl) ?_;clear H a;intro a H
  refine wt_pure H rfl rfl (fun _ => does_move rfl) ?_;clear H a;intro a H
  refine wt_pure H rfl rfl (fun _ => does_move rfl) ?_;clear H a;intro a H
  refine wt_pure H rfl rfl (fun _ => does_move rfl) ?_;clear H a;intro a H
  refine wt_eff rfl ?_
  refine list_call H rfl rfl Try.func72 rfl rfl (ref_leave P T ps PA pc xs XA xc out pe BA bc _ (hps.now S) hpn (hxs.now S) hxn (hpe.now S) hpl hV hou hpp hT) ?_;clear H a
  rintro _ _ a ⟨b28, EA, ec, AA, A', c', r, v, L, rfl, hE, S2⟩ H
  replace S := S.call S2;clear S2
  have hmf := mfv_R hV hou.1 hpp hE
  refine wpList_nil (And.intro (Or.inr (S.sel [4] rfl rfl)) ?_)
  refine wt_pure H rfl rfl (fun _ => does_nilCheck rfl) ?_;clear H a;intro a H
  refine wt_pure H rfl rfl (fun _ => (by first | (exact does_field_pt fo_124_4 rfl; trace "ALT ref_Must 4.6.1 0") | (exact does_field fo_124_4 rfl; trace "ALT ref_Must 4.6.1 1"))) ?_;clear H a;intro a H
  refine wt_b2 rfl rfl ?_ ?_
  ·skip
   refine list_does H rfl (does_load one_3 rfl (by first | (exact boxM.rd S (i := 0) rfl rfl; trace "ALT ref_Must 4.7.1 0") | (exact boxM.rd S (i := 1) rfl rfl; trace "ALT ref_Must 4.7.1 1") | (exact boxM.rd S (i := 2) rfl rfl; trace "ALT ref_Must 4.7.1 2") | (exact boxM.rd S (i := 3) rfl rfl; trace "ALT ref_Must 4.7.1 3") | (exact boxM.rd S (i := 4) rfl rfl; trace "ALT ref_Must 4.7.1 4"))) ?_;clear H a;intro a H
   refine wpList_nil (And.intro (Or.inr (S.sel [4] rfl rfl)) ?_)
   refine wt_eff rfl ?_
   refine list_call H rfl rfl Try.func78 rfl rfl (ref_sum pe BA bc _ (hpe.now S) hpp (by omega)) ?_;clear H a
   rintro _ _ a ⟨rfl, S2⟩ H
   replace S := S.call S2;clear S2
   refine wpList_nil (And.intro (Or.inr (S.sel [4] rfl rfl)) ?_)
   refine wt_pure H rfl rfl (fun _ => does_neq rfl rfl) ?_;clear H a;intro a H
   refine wt_nil ?_
   rw [← hmf] at H
   exact k7 () a _ (trivial) (S.sel [4] rfl rfl) (H.keep [32, 1, 2, 3, 4] rfl)
  ·skip
   refine list_call H rfl rfl Try.func78 rfl rfl (ref_sum pe BA bc _ (hpe.now S) hpp (by omega)) ?_;clear H a
   rintro _ _ a ⟨rfl, S2⟩ H
   replace S := S.call S2;clear S2
   refine wpList_nil (And.intro (Or.inr (S.sel [4] rfl rfl)) ?_)
   refine wt_eff rfl ?_
   refine list_does H rfl (does_load one_3 rfl (by first | (exact boxM.rd S (i := 0) rfl rfl; trace "ALT ref_Must 4.7.2 0") | (exact boxM.rd S (i := 1) rfl rfl; trace "ALT ref_Must 4.7.2 1") | (exact boxM.rd S (i := 2) rfl rfl; trace "ALT ref_Must 4.7.2 2") | (exact boxM.rd S (i := 3) rfl rfl; trace "ALT ref_Must 4.7.2 3") | (exact boxM.rd S (i := 4) rfl rfl; trace "ALT ref_Must 4.7.2 4"))) ?_;clear H a;intro a H
   refine wpList_nil (And.intro (Or.inr (S.sel [4] rfl rfl)) ?_)
   refine wt_pure H rfl rfl (fun _ => does_neq rfl rfl) ?_;clear H a;intro a H
   refine wt_nil ?_
   rw [← hmf] at H
   exact k7 () a _ (trivial) (S.sel [4] rfl rfl) (H.keep [32, 1, 2, 3, 4] rfl)
 clear SR H S a
 intro xm a wm hp S H
 obtain ⟨x, rfl⟩ : ∃ y, y = xm := ⟨_, rfl⟩
 refine cond_ H rfl (fun hc2 => ?_) (fun hc2 => ?_)
 ·skip
  try simp only [o1,o2,o3,o4,o5,o6,o7,o8,o9,oa] at hc2
  replace H := H.keep [] rfl
  refine sS H fun K9 k9=>sr 2 rfl <| sE ?_;clear H a;intro a H
  refine k9 _ ?_;clear k9 K9
  refine wp_ret ?_
  refine ret2 (fn := Try.f48) rfl H rfl rfl ?_
  rw [must_none hc1 hc2]
  exact ⟨none, 0, rfl, (S.sel [] rfl rfl).newNil _ _ _⟩
 try simp only [o1,o2,o3,o4,o5,o6,o7,o8,o9,oa] at hc2
 refine wp_skip ?_
 refine k6 _ _ ?_
 refine sS H fun K10 k10=>sr 1 rfl <| sE ?_;clear H a;intro a H
 refine k10 _ ?_;clear k10 K10
 refine seq_list fun K11 k11 => ?_
 refine ls 2 H <| sd ((does_loadBox agg_25 sz_25 rfl S (i := 0) rfl rfl)) <| sr 1 rfl <| sE ?_;clear H a;intro a H
 refine list_call H rfl rfl Try.func62 rfl rfl (ref_machines P ps PA pc xs XA xc out 3 _ (hps.now S) hpn (hxs.now S) hxn hV.size.2.2) ?_;clear H a
 rintro _ _ a ⟨A6, c6, rfl, S2⟩ H
 replace S := S.call S2;clear S2
 refine ls 1 H <| sr 1 rfl <| sE ?_;clear H a;intro a H
 refine k11 _ _ ?_;clear k11 K11
 refine wp_seq_k fun K12 k12 => ?_
 refine sS H fun K13 k13=>sr 1 rfl <| sE ?_;clear H a;intro a H
 refine k13 _ ?_;clear k13 K13
 refine wp_block ?_
 replace S := S.newNil 3 1 (wcl [])
 refine loop_st (X := Nat × List Nat × Option Addr × Nat) (R0 := _) [1, 2, 3, 4, 12] H rfl (fun ⟨i, wl, A9, c9⟩ => [(11, .slice A9 wl.length c9), (13, .int .i64 (i : Int))]) (fun ⟨i, wl, A9, c9⟩ => [ownM 3 1 A9 wl.length c9 (wcl wl)]) (fun g ⟨i, wl, A9, c9⟩ => i ≤ (machL ps out 3 12).length ∧ g + i = (machL ps out 3 12).length ∧ wl = ((machL ps out 3 12).take i).filter (mustB P T ps xs out pe)) ((machL ps out 3 12).length) (0, [], none, 0) ?_ (S.sel [0, 1, 2] rfl rfl) (H.keep [11, 13, 1, 2, 3, 4, 12] rfl) ?_
 · exact ⟨by omega, by omega, rfl⟩
 clear H S a
 intro g1 x1 a w1 hp S H K14 k14
 obtain ⟨i, wl, A9, c9⟩ := x1
 dsimp only at hp S H
 obtain ⟨hil, hgi, hW⟩ := hp
 have hml9 := machL_len (ps := ps) (out := out) (kind := 3) hV.size.2.2 12
 refine wp_seq_k fun K15 k15 => ?_
 refine sS H fun K16 k16=>sr 2 rfl <| sL sl_23 rfl <| sr 1 rfl <| sE ?_;clear H a;intro a H
 refine k16 _ ?_;clear k16 K16
 refine condL H rfl (fun hc3 => ?_) (fun hc3 => ?_)
 ·skip
  refine wp_skip ?_
  refine k15 _ _ ?_
  refine wp_seq_k fun K17 k17 => ?_
  refine wp_block ?_
  have hmi := machL_in (ps := ps) (out := out) (kind := 3) 12 _ (getD_in (show i < (machL ps out 3 12).length by omega))
  have hpw := pw_le (m := (machL ps out 3 12).getD i 0) hmi.1
  have hbr : 0 ≤ (out + 1 * 2 ^ (((machL ps out 3 12).getD i 0 : Nat) : Int).toNat) ∧ (out + 1 * 2 ^ (((machL ps out 3 12).getD i 0 : Nat) : Int).toNat) ≤ 4095 := by rw [Int.one_mul, Int.toNat_natCast]; exact bit_room hou hmi.1 hmi.2
  replace H := H.keep [1, 2, 3, 4, 11, 12, 13] rfl
  replace S := S.drew
  refine seq_wt 999 (.q 0 (.p 1 (.p 2 (.p 3 (.p 4 (.q 5 (.p 6 (.p 7 (.p 8 (.p 9 (.p 10 (.p 15 (.e 11 (.p 12 (.p 13 (.b2 14 (.e 16 (.p 17 .nil)) 16 (.e 14 (.p 17 .nil)))))))))))))))))) (by kernel_rfl) (by kernel_rfl) (S.sel [0, 1, 2] rfl rfl) fun K18 k18 => ?_
  refine wt_does H rfl rfl (fun _ S => (by first | (exact does_loadBox agg_25 sz_25 rfl S (i := 0) rfl rfl; trace "ALT ref_Must 11.0.1 0") | (exact does_loadBox agg_25 sz_25 rfl S (i := 1) rfl rfl; trace "ALT ref_Must 11.0.1 1") | (exact does_loadBox agg_25 sz_25 rfl S (i := 2) rfl rfl; trace "ALT ref_Must 11.0.1 2"))) ?_;clear H a;intro a H
  refine wt_pure H rfl rfl (fun _ => does_move rfl) ?_;clear H a;intro a H
  refine wt_pure H rfl rfl (fun _ => does_move rfl) ?_;clear H a;intro a H
  refine wt_pure H rfl rfl (fun _ => does_move rfl) ?_;clear H a;intro a H
  refine wt_pure H rfl rfl (fun _ => by first | (exact does_indexN sl_23 sz_3 rfl rfl (ownM.adr S (i := 1) rfl (by omega)) (by omega); trace "ALT ref_Must 11.4.3 0") | (exact does_index sl_23 sz_3 rfl rfl (ownM.adr S (i := 1) rfl (by omega)) (by omega) (by omega); trace "ALT ref_Must 11.4.3 1")) ?_;clear H a;intro a H
  refine wt_does H rfl rfl (fun _ S => does_load one_3 rfl (by first | (exact ownM.rd S (i := 1) rfl (by omega) (by omega); trace "ALT ref_Must 11.5.1 0") | (exact boxM.rd S (i := 0) rfl rfl; trace "ALT ref_Must 11.5.1 1") | (exact boxM.rd S (i := 1) rfl rfl; trace "ALT ref_Must 11.5.1 2") | (exact boxM.rd S (i := 2) rfl rfl; trace "ALT ref_Must 11.5.1 3"))) ?_;clear H a;intro a H
  refine wt_pure H rfl rfl (fun _ => does_convert Try.underlying3 Try.underlying78 rfl (by first | omega | exact IntWalk.i64_in _ (by omega) | exact IntWalk.u64_in _ (by omega))) ?_;clear H a;intro a H
  refine wt_pure H rfl rfl (fun _ => does_shl rfl rfl (by omega) (by omega) (by unfold i64ok; omega)) ?_;clear H a;intro a H
  refine wt_pure H rfl rfl (fun _ => does_add rfl rfl (by unfold i64ok; omega)) ?_;clear H a;intro a H
  refine wt_pure H rfl rfl (fun _ => does_move rfl) ?_;clear H a;intro a H
  refine wt_pure H rfl rfl (fun _ => does_move rfl) ?_;clear H a;intro a H
  refine wt_pure H rfl rfl (fun _ => does_move rfl) ?_;clear H a;intro a H
  refine wt_eff rfl ?_
  refine list_call H rfl rfl Try.func72 rfl rfl (ref_leave P T ps PA pc xs XA xc (out + 1 * 2 ^ (((machL ps out 3 12).getD i 0 : Nat) : Int).toNat) pe BA bc _ (hps.now S) hpn (hxs.now S) hxn (hpe.now S) hpl hV hbr hpp hT) ?_;clear H a
  rintro _ _ a ⟨b28, EA, ec, AA, A', c', r, v, L, rfl, hE, S2⟩ H
  replace S := S.call S2;clear S2
  have hmf := mfv_R hV hbr.1 hpp hE
  simp only [Int.one_mul, Int.toNat_natCast] at hmf
  refine wpList_nil (And.intro (Or.inr (S.sel [4, 5, 6] rfl rfl)) ?_)
  refine wt_pure H rfl rfl (fun _ => does_nilCheck rfl) ?_;clear H a;intro a H
  refine wt_pure H rfl rfl (fun _ => (by first | (exact does_field_pt fo_124_4 rfl; trace "ALT ref_Must 11.13.1 0") | (exact does_field fo_124_4 rfl; trace "ALT ref_Must 11.13.1 1"))) ?_;clear H a;intro a H
  refine wt_b2 rfl rfl ?_ ?_
  ·skip
   refine list_does H rfl (does_load one_3 rfl (by first | (exact ownM.rd S (i := 5) rfl (by omega) (by omega); trace "ALT ref_Must 11.14.1 0") | (exact boxM.rd S (i := 0) rfl rfl; trace "ALT ref_Must 11.14.1 1") | (exact boxM.rd S (i := 1) rfl rfl; trace "ALT ref_Must 11.14.1 2") | (exact boxM.rd S (i := 2) rfl rfl; trace "ALT ref_Must 11.14.1 3") | (exact boxM.rd S (i := 3) rfl rfl; trace "ALT ref_Must 11.14.1 4") | (exact boxM.rd S (i := 4) rfl rfl; trace "ALT ref_Must 11.14.1 5") | (exact boxM.rd S (i := 5) rfl rfl; trace "ALT ref_Must 11.14.1 6") | (exact boxM.rd S (i := 6) rfl rfl; trace "ALT ref_Must 11.14.1 7"))) ?_;clear H a;intro a H
   refine wpList_nil (And.intro (Or.inr (S.sel [4, 5, 6] rfl rfl)) ?_)
   refine wt_eff rfl ?_
   refine list_call H rfl rfl Try.func78 rfl rfl (ref_sum pe BA bc _ (hpe.now S) hpp (by omega)) ?_;clear H a
   rintro _ _ a ⟨rfl, S2⟩ H
   replace S := S.call S2;clear S2
   refine wpList_nil (And.intro (Or.inr (S.sel [4, 5, 6] rfl rfl)) ?_)
   refine wt_pure H rfl rfl (fun _ => does_neq rfl rfl) ?_;clear H a;intro a H
   refine wt_nil ?_
   refine k18 _ _ ?_
   clear k18 K18
   refine condN H rfl (fun hc4 => ?_) (fun hc4 => ?_)
   ·skip
    have hwl : wl.length ≤ i := by rw [hW]; exact filt_len
    replace H := H.keep [1, 2, 3, 4, 11, 12, 13] rfl
    refine one_list ?_
    refine ls 3 H <| sr 3 rfl <| sE ?_;clear H a;intro a H
    refine list_does H rfl (by first | (exact does_indexN sl_23 sz_3 rfl rfl (ownM.adr S (i := 5) rfl (by omega)) (by omega); trace "ALT ref_Must 12.3.3 0") | (exact does_index sl_23 sz_3 rfl rfl (ownM.adr S (i := 5) rfl (by omega)) (by omega) (by omega); trace "ALT ref_Must 12.3.3 1")) ?_;clear H a;intro a H
    refine list_does H rfl (does_load one_3 rfl (by first | (exact ownM.rd S (i := 5) rfl (by omega) (by omega); trace "ALT ref_Must 12.4.1 0") | (exact boxM.rd S (i := 0) rfl rfl; trace "ALT ref_Must 12.4.1 1") | (exact boxM.rd S (i := 1) rfl rfl; trace "ALT ref_Must 12.4.1 2") | (exact boxM.rd S (i := 2) rfl rfl; trace "ALT ref_Must 12.4.1 3") | (exact boxM.rd S (i := 3) rfl rfl; trace "ALT ref_Must 12.4.1 4") | (exact boxM.rd S (i := 4) rfl rfl; trace "ALT ref_Must 12.4.1 5") | (exact boxM.rd S (i := 5) rfl rfl; trace "ALT ref_Must 12.4.1 6") | (exact boxM.rd S (i := 6) rfl rfl; trace "ALT ref_Must 12.4.1 7"))) ?_;clear H a;intro a H
    refine list_build' H rfl S sl_23 sz_3 ze_3 rfl rfl rfl rfl rfl rfl rfl rfl rfl ?_;clear H a S;intro A1 _ a hA1 S H
    refine list_append H rfl S sl_23 sz_3 ze_3 by_3 rfl rfl (i := 5) rfl rfl rfl (ownM.inS S (i := 0) rfl) (one_vs (one rfl)) (by omega) (by omega) ?_;clear H a S;intro A2 c2 _ a S H
    replace S := S.recell (i := 5) rfl (cell' := wcl (wl ++ [(machL ps out 3 12).getD i 0])) (fun k j hk hj => wcl_snoc rfl k j hk hj)
    rw [show wl.length + 1 = (wl ++ [(machL ps out 3 12).getD i 0]).length by simp] at H S
    refine ls 1 H <| sr 1 rfl <| sE ?_;clear H a;intro a H
    refine k17 _ _ ?_
    replace H := H.keep [1, 2, 3, 4, 11, 12, 13] rfl
    refine sO H <| sr 1 rfl <| sd (does_add rfl rfl (by unfold i64ok; omega)) <| sr 1 rfl <| sE ?_;clear H a;intro a H
    exact k14 (g1 - 1) (i + 1, _, _, _) a _ (by omega) (by first | exact ⟨by omega, by omega, filt_yes hW (by omega) (must_t hmf (by omega))⟩ | exact ⟨by omega, by omega, filt_no hW (by omega) (must_f hmf (by omega))⟩) (S.sel [5, 6, 7] rfl rfl) (H.keep [11, 13, 1, 2, 3, 4, 12] rfl)
   refine wp_skip ?_
   refine k17 _ _ ?_
   refine sO H <| sr 1 rfl <| sd (does_add rfl rfl (by unfold i64ok; omega)) <| sr 1 rfl <| sE ?_;clear H a;intro a H
   exact k14 (g1 - 1) (i + 1, _, _, _) a _ (by omega) (by first | exact ⟨by omega, by omega, filt_yes hW (by omega) (must_t hmf (by omega))⟩ | exact ⟨by omega, by omega, filt_no hW (by omega) (must_f hmf (by omega))⟩) (S.sel [4, 5, 6] rfl rfl) (H.keep [11, 13, 1, 2, 3, 4, 12] rfl)
  ·skip
   refine list_call H rfl rfl Try.func78 rfl rfl (ref_sum pe BA bc _ (hpe.now S) hpp (by omega)) ?_;clear H a
   rintro _ _ a ⟨rfl, S2⟩ H
   replace S := S.call S2;clear S2
   refine wpList_nil (And.intro (Or.inr (S.sel [4, 5, 6] rfl rfl)) ?_)
   refine wt_eff rfl ?_
   refine list_does H rfl (does_load one_3 rfl (by first | (exact ownM.rd S (i := 5) rfl (by omega) (by omega); trace "ALT ref_Must 11.14.2 0") | (exact boxM.rd S (i := 0) rfl rfl; trace "ALT ref_Must 11.14.2 1") | (exact boxM.rd S (i := 1) rfl rfl; trace "ALT ref_Must 11.14.2 2") | (exact boxM.rd S (i := 2) rfl rfl; trace "ALT ref_Must 11.14.2 3") | (exact boxM.rd S (i := 3) rfl rfl; trace "ALT ref_Must 11.14.2 4") | (exact boxM.rd S (i := 4) rfl rfl; trace "ALT ref_Must 11.14.2 5") | (exact boxM.rd S (i := 5) rfl rfl; trace "ALT ref_Must 11.14.2 6") | (exact boxM.rd S (i := 6) rfl rfl; trace "ALT ref_Must 11.14.2 7"))) ?_;clear H a;intro a H
   refine wpList_nil (And.intro (Or.inr (S.sel [4, 5, 6] rfl rfl)) ?_)
   refine wt_pure H rfl rfl (fun _ => does_neq rfl rfl) ?_;clear H a;intro a H
   refine wt_nil ?_
   refine k18 _ _ ?_
   clear k18 K18
   refine condN H rfl (fun hc5 => ?_) (fun hc5 => ?_)
   ·skip
    have hwl : wl.length ≤ i := by rw [hW]; exact filt_len
    replace H := H.keep [1, 2, 3, 4, 11, 12, 13] rfl
    refine one_list ?_
    refine ls 3 H <| sr 3 rfl <| sE ?_;clear H a;intro a H
    refine list_does H rfl (by first | (exact does_indexN sl_23 sz_3 rfl rfl (ownM.adr S (i := 5) rfl (by omega)) (by omega); trace "ALT ref_Must 12.3.6 0") | (exact does_index sl_23 sz_3 rfl rfl (ownM.adr S (i := 5) rfl (by omega)) (by omega) (by omega); trace "ALT ref_Must 12.3.6 1")) ?_;clear H a;intro a H
    refine list_does H rfl (does_load one_3 rfl (by first | (exact ownM.rd S (i := 5) rfl (by omega) (by omega); trace "ALT ref_Must 12.4.2 0") | (exact boxM.rd S (i := 0) rfl rfl; trace "ALT ref_Must 12.4.2 1") | (exact boxM.rd S (i := 1) rfl rfl; trace "ALT ref_Must 12.4.2 2") | (exact boxM.rd S (i := 2) rfl rfl; trace "ALT ref_Must 12.4.2 3") | (exact boxM.rd S (i := 3) rfl rfl; trace "ALT ref_Must 12.4.2 4") | (exact boxM.rd S (i := 4) rfl rfl; trace "ALT ref_Must 12.4.2 5") | (exact boxM.rd S (i := 5) rfl rfl; trace "ALT ref_Must 12.4.2 6") | (exact boxM.rd S (i := 6) rfl rfl; trace "ALT ref_Must 12.4.2 7"))) ?_;clear H a;intro a H
    refine list_build' H rfl S sl_23 sz_3 ze_3 rfl rfl rfl rfl rfl rfl rfl rfl rfl ?_;clear H a S;intro A3 _ a hA3 S H
    refine list_append H rfl S sl_23 sz_3 ze_3 by_3 rfl rfl (i := 5) rfl rfl rfl (ownM.inS S (i := 0) rfl) (one_vs (one rfl)) (by omega) (by omega) ?_;clear H a S;intro A4 c4 _ a S H
    replace S := S.recell (i := 5) rfl (cell' := wcl (wl ++ [(machL ps out 3 12).getD i 0])) (fun k j hk hj => wcl_snoc rfl k j hk hj)
    rw [show wl.length + 1 = (wl ++ [(machL ps out 3 12).getD i 0]).length by simp] at H S
    refine ls 1 H <| sr 1 rfl <| sE ?_;clear H a;intro a H
    refine k17 _ _ ?_
    replace H := H.keep [1, 2, 3, 4, 11, 12, 13] rfl
    refine sO H <| sr 1 rfl <| sd (does_add rfl rfl (by unfold i64ok; omega)) <| sr 1 rfl <| sE ?_;clear H a;intro a H
    exact k14 (g1 - 1) (i + 1, _, _, _) a _ (by omega) (by first | exact ⟨by omega, by omega, filt_yes hW (by omega) (must_t hmf (by omega))⟩ | exact ⟨by omega, by omega, filt_no hW (by omega) (must_f hmf (by omega))⟩) (S.sel [5, 6, 7] rfl rfl) (H.keep [11, 13, 1, 2, 3, 4, 12] rfl)
   refine wp_skip ?_
   refine k17 _ _ ?_
   refine sO H <| sr 1 rfl <| sd (does_add rfl rfl (by unfold i64ok; omega)) <| sr 1 rfl <| sE ?_;clear H a;intro a H
   exact k14 (g1 - 1) (i + 1, _, _, _) a _ (by omega) (by first | exact ⟨by omega, by omega, filt_yes hW (by omega) (must_t hmf (by omega))⟩ | exact ⟨by omega, by omega, filt_no hW (by omega) (must_f hmf (by omega))⟩) (S.sel [4, 5, 6] rfl rfl) (H.keep [11, 13, 1, 2, 3, 4, 12] rfl)
 refine wp_exit ?_
 refine k12 _ _ ?_
 refine sS H fun K25 k25=>sr 3 rfl <| sE ?_;clear H a;intro a H
 refine k25 _ ?_;clear k25 K25
 refine wp_ret ?_
 refine ret2 (fn := Try.f48) rfl H rfl rfl ?_
 have hwm : wl = mustL P T ps xs out pe := by rw [hW, List.take_of_length_le (by omega)]; rfl
 rw [must_some hc1 hc2]
 dsimp only
 rw [toI_len, ← hwm, ← wcl_icl]
 exact ⟨_, _, rfl, (S.sel [0] rfl rfl)⟩

end Go.Proofs.Ytlmddkekeoebcaa
