/- RfD. Printed by gen.py. -/
import Derived.Test.YtdepakimbagonaaRfC
namespace Go.Proofs.Ytdepakimbagonaa
open Go.RowKit
set_option linter.unusedVariables false
set_option linter.unusedSimpArgs false
set_option maxRecDepth 100000
set_option maxHeartbeats 4000000


theorem sum_bd {pe : List Int} (hpp : ∀ k, k < pe.length → 0 ≤ pe.getD k 0 ∧ pe.getD k 0 ≤ 1000) (hl : pe.length ≤ 12) {k : Nat} (hk : k ≤ pe.length) : 0 ≤ sumI pe k ∧ sumI pe k ≤ 12000 := by
  have := sumI_bd hpp k hk
  omega


theorem law_Crowded (pl : Int) (ps : List Psg) (PA : Option Addr) (pc : Nat) (xs : List Int) (XA : Option Addr) (xc : Nat) (pe : List Int) (BA : Option Addr) (bc : Nat) (T0 : Int) (w : World) (hps : InS w noF 7 PA ps.length (pcell ps)) (hpn : ps.length ≤ 9223372036854775807) (hxs : InS w noF 1 XA xs.length (icl xs)) (hxn : xs.length ≤ 9223372036854775807) (hpe : InS w noF 1 BA pe.length (icl pe)) (hpen : pe.length ≤ 9223372036854775807) :
    Calls Try.prog 14 [.agg [.int .i64 pl, .slice PA ps.length pc, .slice XA xs.length xc].toArray, .slice BA pe.length bc, .int .i64 T0].toArray w (Ret (fun u w' => ∃ b, u = .bool b ∧ (b = false → ps.length ≤ 26 ∧ pe.length ≤ 12) ∧ St w noF [] w')) := by
 refine enter Try.func14 rfl Try.ntmps14 rfl (fun a H => ?_)
 have S := St.start w
 refine seq_list fun K1 k1 => ?_
 refine list_box H rfl S rfl rfl ?_;clear H a S;intro b3 _ a hb3 hbw3 S H
 refine ls 1 H <| sr 1 rfl <| sE ?_;clear H a;intro a H
 refine k1 _ _ ?_;clear k1 K1
 refine wp_seq_k fun K2 k2 => ?_
 replace H := H.keep [1, 2, 3] rfl
 refine sS H fun K3 k3=>sK ?_;clear H a;intro a H
 refine still_does H rfl ((by first | (exact does_field_pt fo_49_1 rfl; trace "ALT law_Crowded 1.0.1 0") | (exact does_field fo_49_1 rfl; trace "ALT law_Crowded 1.0.1 1"))) ?_;clear H a;intro a H
 refine sF H <| sl S 0 one_47 rfl rfl rfl <| sL sl_47 rfl <| sr 2 rfl <| sg 3 4 13 16 false rfl rfl (fun hg5 => sy hg5 <| sr 1 rfl <| sy hg5 <| sL sl_25 rfl <| sy hg5 <| sr 1 rfl <| sz 3 rfl rfl rfl) <| so rfl rfl rfl <| sE ?_;clear H a;intro a H
 refine k3 _ ?_;clear k3 K3
 refine cond_ H rfl (fun hc1 => ?_) (fun hc1 => ?_)
 ·skip
  try simp only [o1,o2,o3,o4,o5,o6,o7,o8,o9,oa] at hc1
  replace H := H.keep [] rfl
  refine sS H fun K4 k4=>sr 1 rfl <| sE ?_;clear H a;intro a H
  refine k4 _ ?_;clear k4 K4
  refine wp_ret ?_
  refine ret1 (fn := Try.f14) rfl H rfl ?_
  exact ⟨_, rfl, (fun h => by cases h), (S.sel [] rfl rfl)⟩
 try simp only [o1,o2,o3,o4,o5,o6,o7,o8,o9,oa] at hc1
 refine wp_skip ?_
 refine k2 _ _ ?_
 refine wp_seq_k fun K5 k5 => ?_
 refine seq_list fun K6 k6 => ?_
 refine ls 3 H <| sd ((does_loadBox agg_49 sz_49 rfl S (i := 0) rfl rfl)) <| sr 2 rfl <| sE ?_;clear H a;intro a H
 refine list_call H rfl rfl Try.func16 rfl rfl (ref_CheckLeave pl ps PA pc xs XA xc 0 pe BA bc T0 _ (hps.now S) hpn (hxs.now S) hxn (hpe.now S) hpen) ?_;clear H a
 rintro _ _ a ⟨rfl, S2⟩ H
 replace S := S.call S2;clear S2
 refine ls 1 H <| sr 1 rfl <| sE ?_;clear H a;intro a H
 refine k6 _ _ ?_;clear k6 K6
 refine condN H rfl (fun hc2 => ?_) (fun hc2 => ?_)
 ·skip
  refine sS H fun K7 k7=>sr 1 rfl <| sE ?_;clear H a;intro a H
  refine k7 _ ?_;clear k7 K7
  refine wp_ret ?_
  refine ret1 (fn := Try.f14) rfl H rfl ?_
  exact ⟨_, rfl, fun _ => ⟨by omega, by omega⟩, (S.sel [] rfl rfl)⟩
 obtain ⟨hst, hou, hcr, hti⟩ := leaveE_ok (show leaveE pl ps xs 0 pe T0 = 0 by omega)
 obtain ⟨hpp, hpl'⟩ := crowd_ok hcr
 refine wp_skip ?_
 refine k5 _ _ ?_
 refine sS H fun K8 k8=>sr 1 rfl <| sE ?_;clear H a;intro a H
 refine k8 _ ?_;clear k8 K8
 refine wp_seq_k fun K9 k9 => ?_
 refine sS H fun K10 k10=>sr 1 rfl <| sE ?_;clear H a;intro a H
 refine k10 _ ?_;clear k10 K10
 refine wp_block ?_
 refine loop_st (X := Nat) (R0 := _) [1, 2, 3] H rfl (fun k => [(7, .int .i64 (sumI pe k)), (8, .int .i64 (k : Int))]) (fun k => []) (fun g k => k ≤ pe.length ∧ g + k = pe.length) (pe.length) 0 ?_ (S.sel [0] rfl rfl) (H.keep [7, 8, 1, 2, 3] rfl) ?_
 · exact ⟨by omega, by omega⟩
 clear H S a
 intro g1 x1 a w1 hp S H K11 k11
 obtain ⟨k, rfl⟩ : ∃ y, y = x1 := ⟨_, rfl⟩
 refine wp_seq_k fun K12 k12 => ?_
 refine sS H fun K13 k13=>sr 2 rfl <| sL sl_25 rfl <| sr 1 rfl <| sE ?_;clear H a;intro a H
 refine k13 _ ?_;clear k13 K13
 refine condL H rfl (fun hc3 => ?_) (fun hc3 => ?_)
 ·skip
  refine wp_skip ?_
  refine k12 _ _ ?_
  refine wp_seq_k fun K14 k14 => ?_
  refine wp_block ?_
  have hsb := sum_bd hpp (by omega) (k := k) (by omega); have hsk := hpp k (by omega)
  replace H := H.keep [1, 2, 3, 7, 8] rfl
  refine sO H <| sr 3 rfl <| si sl_25 sz_3 rfl rfl (hpe.adr (by omega)) (by omega) <| slm one_3 rfl (hpe.rd S (by omega) (by omega)) <| sd (does_add rfl rfl (by unfold i64ok; omega)) <| sr 1 rfl <| sE ?_;clear H a;intro a H
  refine k14 _ _ ?_
  replace H := H.keep [1, 2, 3, 7, 8] rfl
  refine sO H <| sr 1 rfl <| sd (does_add rfl rfl (by unfold i64ok; omega)) <| sr 1 rfl <| sE ?_;clear H a;intro a H
  exact k11 (g1 - 1) (k + 1) a _ (by omega) (⟨by omega, by omega⟩) (S.sel [0] rfl rfl) (H.keep [7, 8, 1, 2, 3] rfl)
 refine wp_exit ?_
 refine k9 _ _ ?_
 replace H := H.keep [2, 3, 7] rfl
 refine sS H fun K17 k17=>sK ?_;clear H a;intro a H
 refine still_does H rfl ((by first | (exact does_field_pt fo_49_1 rfl; trace "ALT law_Crowded 10.0.1 0") | (exact does_field fo_49_1 rfl; trace "ALT law_Crowded 10.0.1 1"))) ?_;clear H a;intro a H
 refine sF H <| sl S 0 one_47 rfl rfl rfl <| sL sl_47 rfl <| sr 2 rfl <| sg 2 4 39 41 false rfl rfl (fun hg5 => sy hg5 <| sr 1 rfl <| sy hg5 <| sr 1 rfl <| sz 2 rfl rfl rfl) <| so rfl rfl rfl <| sr 1 rfl <| sg 2 8 43 45 false rfl rfl (fun hg9 => sy hg9 <| sr 1 rfl <| sy hg9 <| sr 1 rfl <| sz 2 rfl rfl rfl) <| so rfl rfl rfl <| sr 1 rfl <| sE ?_;clear H a;intro a H
 refine k17 _ ?_;clear k17 K17
 refine wp_ret ?_
 refine ret1 (fn := Try.f14) rfl H rfl ?_
 exact ⟨_, rfl, fun _ => ⟨by omega, by omega⟩, (S.sel [] rfl rfl)⟩

end Go.Proofs.Ytdepakimbagonaa
