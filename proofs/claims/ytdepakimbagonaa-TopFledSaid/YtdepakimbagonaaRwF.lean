/- RwF. Printed by gen.py. -/
import Derived.Test.YtdepakimbagonaaRwA
import Derived.Test.YtdepakimbagonaaE2
import Derived.Test.YtdepakimbagonaaWyH
import Derived.Test.YtdepakimbagonaaE4
import Derived.Test.YtdepakimbagonaaE3
import Derived.Test.YtdepakimbagonaaE5
import Derived.Test.YtdepakimbagonaaE1
namespace Go.Proofs.Ytdepakimbagonaa
open Go.RowKit
set_option linter.unusedVariables false
set_option linter.unusedSimpArgs false
set_option maxRecDepth 100000
set_option maxHeartbeats 4000000


theorem ref_isPeople (pl : Int) (ps : List Psg) (PA : Option Addr) (pc : Nat) (xs : List Int) (XA : Option Addr) (xc : Nat) (pe : List Int) (BA : Option Addr) (bc : Nat) (w : World) (hpe : InS w noF 1 BA pe.length (icl pe)) (hpen : pe.length ≤ 9223372036854775807) :
    Calls Try.prog 37 [.agg [.int .i64 pl, .slice PA ps.length pc, .slice XA xs.length xc].toArray, .slice BA pe.length bc].toArray w (Ret (fun v w' => v = .bool (crowdOk pl pe) ∧ St w noF [] w')) := by
 refine enter Try.func37 rfl Try.ntmps37 rfl (fun a H => ?_)
 have S := St.start w
 refine seq_list fun K1 k1 => ?_
 refine list_box H rfl S rfl rfl ?_;clear H a S;intro b2 _ a hb2 hbw2 S H
 refine ls 1 H <| sr 1 rfl <| sE ?_;clear H a;intro a H
 refine k1 _ _ ?_;clear k1 K1
 refine wp_seq_k fun K2 k2 => ?_
 refine sS H fun K3 k3=>sr 1 rfl <| sE ?_;clear H a;intro a H
 refine k3 _ ?_;clear k3 K3
 refine wp_block ?_
 refine loop_st (X := Nat) (R0 := _) [1, 2] H rfl (fun k => [(5, .int .i64 (k : Int))]) (fun k => []) (fun g k => k ≤ pe.length ∧ g + k = pe.length ∧ allN (fun k => decide (0 ≤ pe.getD k 0 ∧ pe.getD k 0 ≤ 1000)) k = true) (pe.length) 0 ?_ (S.sel [0] rfl rfl) (H.keep [5, 1, 2] rfl) ?_
 · exact ⟨by omega, by omega, rfl⟩
 clear H S a
 intro g1 x1 a w1 hp S H K4 k4
 obtain ⟨k, rfl⟩ : ∃ y, y = x1 := ⟨_, rfl⟩
 refine wp_seq_k fun K5 k5 => ?_
 refine sS H fun K6 k6=>sr 2 rfl <| sL sl_25 rfl <| sr 1 rfl <| sE ?_;clear H a;intro a H
 refine k6 _ ?_;clear k6 K6
 refine condL H rfl (fun hc1 => ?_) (fun hc1 => ?_)
 ·skip
  refine wp_skip ?_
  refine k5 _ _ ?_
  refine wp_seq_k fun K7 k7 => ?_
  refine wp_block ?_
  replace H := H.keep [1, 2, 5] rfl
  refine sS H fun K8 k8=>sr 2 rfl <| si sl_25 sz_3 rfl rfl (hpe.adr (by omega)) (by omega) <| slm one_3 rfl (hpe.rd S (by omega) (by omega)) <| sc rfl Try.func38 rfl rfl (w8ref_from _ _ _ _) <| sr 1 rfl <| sE ?_;clear H a;intro a H
  refine k8 _ ?_;clear k8 K8
  refine cond_ H rfl (fun hc2 => ?_) (fun hc2 => ?_)
  ·skip
   try simp only [o1,o2,o3,o4,o5,o6,o7,o8,o9,oa] at hc2
   refine sS H fun K9 k9=>sr 1 rfl <| sE ?_;clear H a;intro a H
   refine k9 _ ?_;clear k9 K9
   refine wp_ret ?_
   refine ret1 (fn := Try.f37) rfl H rfl ?_
   refine ⟨congrArg Value.bool ?_, (S.sel [] rfl rfl)⟩; unfold crowdOk; rw [allN_false (k := k) (by omega) (by rw [decide_eq_false_iff_not]; omega)]; rfl
  try simp only [o1,o2,o3,o4,o5,o6,o7,o8,o9,oa] at hc2
  refine wp_skip ?_
  refine k7 _ _ ?_
  replace H := H.keep [1, 2, 5] rfl
  refine sO H <| sr 1 rfl <| sd (does_add rfl rfl (by unfold i64ok; omega)) <| sr 1 rfl <| sE ?_;clear H a;intro a H
  exact k4 (g1 - 1) (k + 1) a _ (by omega) (⟨by omega, by omega, allN_step hp.2.2 (by rw [decide_eq_true_eq]; omega)⟩) (S.sel [0] rfl rfl) (H.keep [5, 1, 2] rfl)
 refine wp_exit ?_
 refine k2 _ _ ?_
 refine sS H fun K11 k11=>sr 1 rfl <| sL sl_25 rfl <| sK ?_;clear H a;intro a H
 refine still_does H rfl ((by first | (exact does_field_pt fo_49_0 rfl; trace "ALT ref_isPeople 6.2.1 0") | (exact does_field fo_49_0 rfl; trace "ALT ref_isPeople 6.2.1 1"))) ?_;clear H a;intro a H
 refine sF H <| sl S 0 one_3 rfl rfl rfl <| sr 2 rfl <| sE ?_;clear H a;intro a H
 refine k11 _ ?_;clear k11 K11
 refine wp_ret ?_
 refine ret1 (fn := Try.f37) rfl H rfl ?_
 refine ⟨congrArg Value.bool ?_, (S.sel [] rfl rfl)⟩; unfold crowdOk; rw [show pe.length = k by omega, hp.2.2, Bool.true_and]

end Go.Proofs.Ytdepakimbagonaa
