/- ChA. Printed by gen.py. -/
import Derived.Test.YtlejjfhgfajoiaaFacts
import Derived.Test.YtlejjfhgfajoiaaChDat
namespace Go.Proofs.Ytlejjfhgfajoiaa
open Go.RowKit
set_option linter.unusedVariables false
set_option linter.unusedSimpArgs false


set_option maxRecDepth 100000 in
set_option maxHeartbeats 1000000 in
theorem chain_within (n lo hi : Int) (w : World) :
    Calls Try.prog 63 [.int .i64 n, .int .i64 lo, .int .i64 hi].toArray w (Ret (fun v w' => v = .bool (decide (lo ≤ n) && decide (n ≤ hi)) ∧ w' = w)) := by
  refine enter Try.func63 rfl Try.ntmps63 rfl (fun a H => ?_)
  have S := St.start w
  refine seq_still (fun K1 hK1 => ?_)
  refine still_does H rfl (does_assign rfl) ?_; clear H a; intro a H
  refine wpStill_nil (hK1 _ ?_)
  clear hK1 K1
  replace H := H.keep [0, 1, 2] rfl
  refine seq_still (fun K2 hK2 => ?_)
  refine still_does H rfl (does_move rfl) ?_; clear H a; intro a H
  refine still_does H rfl (does_move rfl) ?_; clear H a; intro a H
  refine still_does H rfl (does_geq rfl rfl) ?_; clear H a; intro a H
  refine still_does H rfl (does_move rfl) ?_; clear H a; intro a H
  apply still_guard (i := 3) (g := 10) (t := 13) (b := true) 3 H rfl rfl (by kernel_rfl) (by kernel_rfl) rfl rfl
  case h1 =>
    intro hg4
    refine still_yes' H rfl rfl (by assumption) ?_
    refine still_does H rfl (does_move rfl) ?_; intro a H
    refine still_yes' H rfl rfl (by assumption) ?_
    refine still_does H rfl (does_move rfl) ?_; intro a H
    refine still_yes' H rfl rfl (by assumption) ?_
    refine still_does H rfl (does_leq rfl rfl) ?_; intro a H
    exact wpStill_nil (H.strip 3 rfl rfl)
  case k =>
    clear H a; intro a H
    refine still_does H rfl (by first | exact does_and rfl rfl rfl | exact does_pick rfl rfl rfl) ?_; clear H a; intro a H
    refine still_does H rfl (does_assign rfl) ?_; clear H a; intro a H
    refine wpStill_nil (hK2 _ ?_)
    clear hK2 K2
    refine wp_ret ?_
    refine ret1 (fn := Try.f63) rfl H rfl ?_
    exact ⟨rfl, rfl⟩

set_option maxRecDepth 100000 in
set_option maxHeartbeats 1000000 in
theorem chain_Check (c : Chain) (l : List Gauge) (A : Option Addr) (cp : Nat) (w : World) (hl : InS w noF 4 A l.length (gcell l)) (hn : l.length ≤ 9223372036854775807) :
    Calls Try.prog 23 [c.val, .slice A l.length cp].toArray w (Ret (fun v w' => v = .int .i64 (checkE c l) ∧ St w noF [] w')) := by
  refine enter Try.func23 rfl Try.ntmps23 rfl (fun a H => ?_)
  have S := St.start w
  refine seq_list (fun K1 hK1 => ?_)
  refine list_box H rfl S rfl rfl ?_; clear H a S; intro b2 _ a hb2 hbw2 S H
  refine list_does H rfl (does_assign rfl) ?_; clear H a; intro a H
  refine hK1 _ _ ?_
  clear hK1 K1
  refine wp_seq_k (fun K2 hK2 => ?_)
  replace H := H.keep [1, 2] rfl
  refine seq_still (fun K3 hK3 => ?_)
  refine still_does H rfl (by first | exact does_field_pt fo_23_0 rfl | exact does_field fo_23_0 rfl) ?_; clear H a; intro a H
  refine still_does H rfl (does_load one_3 rfl (by first | exact boxM.rd S (i := 0) rfl rfl)) ?_; clear H a; intro a H
  refine still_call H rfl rfl Try.func63 rfl rfl (chain_within _ _ _ _) ?_; clear H a; intro a H
  refine still_does H rfl (does_not rfl) ?_; clear H a; intro a H
  refine still_does H rfl (does_move rfl) ?_; clear H a; intro a H
  apply still_guard (i := 4) (g := 11) (t := 14) (b := false) 3 H rfl rfl (by kernel_rfl) (by kernel_rfl) rfl rfl
  case h1 =>
    intro hg5
    refine still_yes' H rfl rfl (by assumption) ?_
    refine still_does H rfl (by first | exact does_field_pt fo_23_1 rfl | exact does_field fo_23_1 rfl) ?_; intro a H
    refine still_yes' H rfl rfl (by assumption) ?_
    refine still_does H rfl (does_load one_3 rfl (by first | exact boxM.rd S (i := 0) rfl rfl)) ?_; intro a H
    refine still_yes' H rfl rfl (by assumption) ?_
    refine still_does H rfl (does_lss rfl rfl) ?_; intro a H
    exact wpStill_nil (H.strip 3 rfl rfl)
  case k =>
    clear H a; intro a H
    refine still_does H rfl (by first | exact does_or rfl rfl rfl | exact does_pick rfl rfl rfl) ?_; clear H a; intro a H
    refine still_does H rfl (does_move rfl) ?_; clear H a; intro a H
    apply still_guard (i := 9) (g := 16) (t := 21) (b := false) 5 H rfl rfl (by kernel_rfl) (by kernel_rfl) rfl rfl
    case h1 =>
      intro hg10
      refine still_yes' H rfl rfl (by assumption) ?_
      refine still_does H rfl (by first | exact does_field_pt fo_23_2 rfl | exact does_field fo_23_2 rfl) ?_; intro a H
      refine still_yes' H rfl rfl (by assumption) ?_
      refine still_does H rfl (does_load one_3 rfl (by first | exact boxM.rd S (i := 0) rfl rfl)) ?_; intro a H
      refine still_yes' H rfl rfl (by assumption) ?_
      refine still_does H rfl (by first | exact does_field_pt fo_23_1 rfl | exact does_field fo_23_1 rfl) ?_; intro a H
      refine still_yes' H rfl rfl (by assumption) ?_
      refine still_does H rfl (does_load one_3 rfl (by first | exact boxM.rd S (i := 0) rfl rfl)) ?_; intro a H
      refine still_yes' H rfl rfl (by assumption) ?_
      refine still_does H rfl (does_lss rfl rfl) ?_; intro a H
      exact wpStill_nil (H.strip 5 rfl rfl)
    case k =>
      clear H a; intro a H
      refine still_does H rfl (by first | exact does_or rfl rfl rfl | exact does_pick rfl rfl rfl) ?_; clear H a; intro a H
      refine still_does H rfl (does_move rfl) ?_; clear H a; intro a H
      apply still_guard (i := 16) (g := 23) (t := 26) (b := false) 3 H rfl rfl (by kernel_rfl) (by kernel_rfl) rfl rfl
      case h1 =>
        intro hg17
        refine still_yes' H rfl rfl (by assumption) ?_
        refine still_does H rfl (by first | exact does_field_pt fo_23_2 rfl | exact does_field fo_23_2 rfl) ?_; intro a H
        refine still_yes' H rfl rfl (by assumption) ?_
        refine still_does H rfl (does_load one_3 rfl (by first | exact boxM.rd S (i := 0) rfl rfl)) ?_; intro a H
        refine still_yes' H rfl rfl (by assumption) ?_
        refine still_does H rfl (does_gtr rfl rfl) ?_; intro a H
        exact wpStill_nil (H.strip 3 rfl rfl)
      case k =>
        clear H a; intro a H
        refine still_does H rfl (by first | exact does_or rfl rfl rfl | exact does_pick rfl rfl rfl) ?_; clear H a; intro a H
        refine wpStill_nil (hK3 _ ?_)
        clear hK3 K3
        refine cond_ H rfl (fun hc1 => ?_) (fun hc1 => ?_)
        · try simp only [Bool.or_eq_true, Bool.and_eq_true, Bool.not_eq_true', Bool.or_eq_false_iff, Bool.and_eq_false_iff, Bool.not_eq_false', decide_eq_true_eq, decide_eq_false_iff_not, Int.not_lt, Int.not_le] at hc1
          replace H := H.keep [] rfl
          refine seq_still (fun K4 hK4 => ?_)
          refine still_does H rfl (does_assign rfl) ?_; clear H a; intro a H
          refine wpStill_nil (hK4 _ ?_)
          clear hK4 K4
          refine wp_ret ?_
          refine ret1 (fn := Try.f23) rfl H rfl ?_
          refine ⟨?_, (S.sel [] rfl rfl)⟩; unfold checkE; rw [if_neg (by unfold chainOk; simp only [decide_eq_true_eq]; omega)]
        · try simp only [Bool.or_eq_true, Bool.and_eq_true, Bool.not_eq_true', Bool.or_eq_false_iff, Bool.and_eq_false_iff, Bool.not_eq_false', decide_eq_true_eq, decide_eq_false_iff_not, Int.not_lt, Int.not_le] at hc1
          refine wp_skip ?_
          refine hK2 _ _ ?_
          refine wp_seq_k (fun K5 hK5 => ?_)
          replace H := H.keep [1, 2] rfl
          refine seq_still (fun K6 hK6 => ?_)
          refine still_does H rfl (does_move rfl) ?_; clear H a; intro a H
          refine still_does H rfl (does_len sl_24 rfl) ?_; clear H a; intro a H
          refine still_does H rfl (does_gtr rfl rfl) ?_; clear H a; intro a H
          refine wpStill_nil (hK6 _ ?_)
          clear hK6 K6
          refine cond_ H rfl (fun hc2 => ?_) (fun hc2 => ?_)
          · try simp only [Bool.or_eq_true, Bool.and_eq_true, Bool.not_eq_true', Bool.or_eq_false_iff, Bool.and_eq_false_iff, Bool.not_eq_false', decide_eq_true_eq, decide_eq_false_iff_not, Int.not_lt, Int.not_le] at hc2
            replace H := H.keep [] rfl
            refine seq_still (fun K7 hK7 => ?_)
            refine still_does H rfl (does_assign rfl) ?_; clear H a; intro a H
            refine wpStill_nil (hK7 _ ?_)
            clear hK7 K7
            refine wp_ret ?_
            refine ret1 (fn := Try.f23) rfl H rfl ?_
            refine ⟨?_, (S.sel [] rfl rfl)⟩; unfold checkE; rw [if_pos (by unfold chainOk; simp only [decide_eq_true_eq]; omega), if_neg (by omega)]
          · try simp only [Bool.or_eq_true, Bool.and_eq_true, Bool.not_eq_true', Bool.or_eq_false_iff, Bool.and_eq_false_iff, Bool.not_eq_false', decide_eq_true_eq, decide_eq_false_iff_not, Int.not_lt, Int.not_le] at hc2
            refine wp_skip ?_
            refine hK5 _ _ ?_
            refine wp_seq_k (fun K8 hK8 => ?_)
            replace H := H.keep [1, 2] rfl
            refine seq_still (fun K9 hK9 => ?_)
            refine still_does H rfl (does_move rfl) ?_; clear H a; intro a H
            refine still_does H rfl (does_len sl_24 rfl) ?_; clear H a; intro a H
            refine still_does H rfl (does_move rfl) ?_; clear H a; intro a H
            refine wpStill_nil (hK9 _ ?_)
            clear hK9 K9
            refine wp_block ?_
            refine loop_st (X := Nat) (R0 := _) [2, 31, 32] H rfl (fun k => [(33, .int .i64 (k : Int))]) (fun k => []) (fun g k => k ≤ l.length ∧ g + k = l.length ∧ (l.take k).all (gaugeOk c.links) = true) (l.length) 0 ?_ (S.sel [0] rfl rfl) (H.keep [33, 2, 31, 32] rfl) ?_
            · exact ⟨by omega, by omega, by simp⟩
            · intro g1 x1 a w1 hp S H K10 hK10
              obtain ⟨k, rfl⟩ : ∃ y, y = x1 := ⟨_, rfl⟩
              skip
              replace H := H.keep [2, 31, 32, 33] rfl
              refine seq_still (fun K11 hK11 => ?_)
              refine still_does H rfl (does_lss rfl rfl) ?_; clear H a; intro a H
              refine wpStill_nil (hK11 _ ?_)
              clear hK11 K11
              refine wp_seq_k (fun K12 hK12 => ?_)
              refine cond_ H rfl (fun hc3 => ?_) (fun hc3 => ?_)
              · try simp only [Bool.or_eq_true, Bool.and_eq_true, Bool.not_eq_true', Bool.or_eq_false_iff, Bool.and_eq_false_iff, Bool.not_eq_false', decide_eq_true_eq, decide_eq_false_iff_not, Int.not_lt, Int.not_le] at hc3
                refine wp_skip ?_
                refine hK12 _ _ ?_
                refine wp_seq_k (fun K13 hK13 => ?_)
                refine wp_block ?_
                replace H := H.keep [2, 31, 32, 33] rfl
                refine seq_list (fun K14 hK14 => ?_)
                refine list_does H rfl (by first | exact does_indexN sl_24 sz_48 rfl rfl (by first | exact hl.adr (by omega)) (by first | omega | omega) | exact does_index sl_24 sz_48 rfl rfl (by first | exact hl.adr (by omega)) (by omega) (by first | omega | omega)) ?_; clear H a; intro a H
                refine list_does H rfl (by first | exact does_loadIn agg_48 sz_48 rfl S hl (by omega) (by omega) | exact does_loadBox agg_48 sz_48 rfl S (i := 0) rfl rfl) ?_; clear H a; intro a H
                refine list_alloc H rfl S ze_48 ?_; clear H a S; intro b6 _ a hb6 hbw6 S H
                first | (refine list_store H S (i := 0) rfl rfl rfl rfl sz_48 rfl rfl ?_) | (refine list_store H S (i := 1) rfl rfl rfl rfl sz_48 rfl rfl ?_) | (refine list_store_own H S (i := 0) rfl rfl rfl (by omega) (by omega) sz_48 rfl ?_) | (refine list_store_own H S (i := 1) rfl rfl rfl (by omega) (by omega) sz_48 rfl ?_)
                clear H a S; intro _ a S H
                refine hK14 _ _ ?_
                clear hK14 K14
                replace H := H.keep [2, 6, 31, 32, 33] rfl
                refine seq_still (fun K15 hK15 => ?_)
                refine still_does H rfl (by first | exact does_field_pt fo_48_0 rfl | exact does_field fo_48_0 rfl) ?_; clear H a; intro a H
                refine still_does H rfl (does_load one_3 rfl (by first | exact boxM.rd S (i := 0) rfl rfl | exact boxM.rd S (i := 1) rfl rfl)) ?_; clear H a; intro a H
                refine still_does H rfl (does_lss rfl rfl) ?_; clear H a; intro a H
                refine still_does H rfl (does_move rfl) ?_; clear H a; intro a H
                apply still_guard (i := 3) (g := 40) (t := 45) (b := false) 5 H rfl rfl (by kernel_rfl) (by kernel_rfl) rfl rfl
                case h1 =>
                  intro hg4
                  refine still_yes' H rfl rfl (by assumption) ?_
                  refine still_does H rfl (by first | exact does_field_pt fo_48_1 rfl | exact does_field fo_48_1 rfl) ?_; intro a H
                  refine still_yes' H rfl rfl (by assumption) ?_
                  refine still_does H rfl (does_load one_3 rfl (by first | exact boxM.rd S (i := 0) rfl rfl | exact boxM.rd S (i := 1) rfl rfl)) ?_; intro a H
                  refine still_yes' H rfl rfl (by assumption) ?_
                  refine still_does H rfl (by first | exact does_field_pt fo_48_0 rfl | exact does_field fo_48_0 rfl) ?_; intro a H
                  refine still_yes' H rfl rfl (by assumption) ?_
                  refine still_does H rfl (does_load one_3 rfl (by first | exact boxM.rd S (i := 0) rfl rfl | exact boxM.rd S (i := 1) rfl rfl)) ?_; intro a H
                  refine still_yes' H rfl rfl (by assumption) ?_
                  refine still_does H rfl (does_leq rfl rfl) ?_; intro a H
                  exact wpStill_nil (H.strip 5 rfl rfl)
                case k =>
                  clear H a; intro a H
                  refine still_does H rfl (by first | exact does_or rfl rfl rfl | exact does_pick rfl rfl rfl) ?_; clear H a; intro a H
                  refine still_does H rfl (does_move rfl) ?_; clear H a; intro a H
                  apply still_guard (i := 10) (g := 47) (t := 52) (b := false) 5 H rfl rfl (by kernel_rfl) (by kernel_rfl) rfl rfl
                  case h1 =>
                    intro hg11
                    refine still_yes' H rfl rfl (by assumption) ?_
                    refine still_does H rfl (by first | exact does_field_pt fo_48_1 rfl | exact does_field fo_48_1 rfl) ?_; intro a H
                    refine still_yes' H rfl rfl (by assumption) ?_
                    refine still_does H rfl (does_load one_3 rfl (by first | exact boxM.rd S (i := 0) rfl rfl | exact boxM.rd S (i := 1) rfl rfl)) ?_; intro a H
                    refine still_yes' H rfl rfl (by assumption) ?_
                    refine still_does H rfl (by first | exact does_field_pt fo_23_0 rfl | exact does_field fo_23_0 rfl) ?_; intro a H
                    refine still_yes' H rfl rfl (by assumption) ?_
                    refine still_does H rfl (does_load one_3 rfl (by first | exact boxM.rd S (i := 0) rfl rfl | exact boxM.rd S (i := 1) rfl rfl)) ?_; intro a H
                    refine still_yes' H rfl rfl (by assumption) ?_
                    refine still_does H rfl (does_gtr rfl rfl) ?_; intro a H
                    exact wpStill_nil (H.strip 5 rfl rfl)
                  case k =>
                    clear H a; intro a H
                    refine still_does H rfl (by first | exact does_or rfl rfl rfl | exact does_pick rfl rfl rfl) ?_; clear H a; intro a H
                    refine still_does H rfl (does_move rfl) ?_; clear H a; intro a H
                    apply still_guard (i := 17) (g := 54) (t := 58) (b := false) 4 H rfl rfl (by kernel_rfl) (by kernel_rfl) rfl rfl
                    case h1 =>
                      intro hg18
                      refine still_yes' H rfl rfl (by assumption) ?_
                      refine still_does H rfl (by first | exact does_field_pt fo_48_2 rfl | exact does_field fo_48_2 rfl) ?_; intro a H
                      refine still_yes' H rfl rfl (by assumption) ?_
                      refine still_does H rfl (by first | exact does_field_pt fo_42_0 rfl | exact does_field fo_42_0 rfl) ?_; intro a H
                      refine still_yes' H rfl rfl (by assumption) ?_
                      refine still_does H rfl (does_load one_3 rfl (by first | exact boxM.rd S (i := 0) rfl rfl | exact boxM.rd S (i := 1) rfl rfl)) ?_; intro a H
                      refine still_yes' H rfl rfl (by assumption) ?_
                      refine still_does H rfl (does_lss rfl rfl) ?_; intro a H
                      exact wpStill_nil (H.strip 4 rfl rfl)
                    case k =>
                      clear H a; intro a H
                      refine still_does H rfl (by first | exact does_or rfl rfl rfl | exact does_pick rfl rfl rfl) ?_; clear H a; intro a H
                      refine still_does H rfl (does_move rfl) ?_; clear H a; intro a H
                      apply still_guard (i := 23) (g := 60) (t := 67) (b := false) 7 H rfl rfl (by kernel_rfl) (by kernel_rfl) rfl rfl
                      case h1 =>
                        intro hg24
                        refine still_yes' H rfl rfl (by assumption) ?_
                        refine still_does H rfl (by first | exact does_field_pt fo_48_2 rfl | exact does_field fo_48_2 rfl) ?_; intro a H
                        refine still_yes' H rfl rfl (by assumption) ?_
                        refine still_does H rfl (by first | exact does_field_pt fo_42_1 rfl | exact does_field fo_42_1 rfl) ?_; intro a H
                        refine still_yes' H rfl rfl (by assumption) ?_
                        refine still_does H rfl (does_load one_3 rfl (by first | exact boxM.rd S (i := 0) rfl rfl | exact boxM.rd S (i := 1) rfl rfl)) ?_; intro a H
                        refine still_yes' H rfl rfl (by assumption) ?_
                        refine still_does H rfl (by first | exact does_field_pt fo_48_2 rfl | exact does_field fo_48_2 rfl) ?_; intro a H
                        refine still_yes' H rfl rfl (by assumption) ?_
                        refine still_does H rfl (by first | exact does_field_pt fo_42_0 rfl | exact does_field fo_42_0 rfl) ?_; intro a H
                        refine still_yes' H rfl rfl (by assumption) ?_
                        refine still_does H rfl (does_load one_3 rfl (by first | exact boxM.rd S (i := 0) rfl rfl | exact boxM.rd S (i := 1) rfl rfl)) ?_; intro a H
                        refine still_yes' H rfl rfl (by assumption) ?_
                        refine still_does H rfl (does_lss rfl rfl) ?_; intro a H
                        exact wpStill_nil (H.strip 7 rfl rfl)
                      case k =>
                        clear H a; intro a H
                        refine still_does H rfl (by first | exact does_or rfl rfl rfl | exact does_pick rfl rfl rfl) ?_; clear H a; intro a H
                        refine still_does H rfl (does_move rfl) ?_; clear H a; intro a H
                        apply still_guard (i := 32) (g := 69) (t := 73) (b := false) 4 H rfl rfl (by kernel_rfl) (by kernel_rfl) rfl rfl
                        case h1 =>
                          intro hg33
                          refine still_yes' H rfl rfl (by assumption) ?_
                          refine still_does H rfl (by first | exact does_field_pt fo_48_2 rfl | exact does_field fo_48_2 rfl) ?_; intro a H
                          refine still_yes' H rfl rfl (by assumption) ?_
                          refine still_does H rfl (by first | exact does_field_pt fo_42_1 rfl | exact does_field fo_42_1 rfl) ?_; intro a H
                          refine still_yes' H rfl rfl (by assumption) ?_
                          refine still_does H rfl (does_load one_3 rfl (by first | exact boxM.rd S (i := 0) rfl rfl | exact boxM.rd S (i := 1) rfl rfl)) ?_; intro a H
                          refine still_yes' H rfl rfl (by assumption) ?_
                          refine still_does H rfl (does_gtr rfl rfl) ?_; intro a H
                          exact wpStill_nil (H.strip 4 rfl rfl)
                        case k =>
                          clear H a; intro a H
                          refine still_does H rfl (by first | exact does_or rfl rfl rfl | exact does_pick rfl rfl rfl) ?_; clear H a; intro a H
                          refine wpStill_nil (hK15 _ ?_)
                          clear hK15 K15
                          refine cond_ H rfl (fun hc4 => ?_) (fun hc4 => ?_)
                          · try simp only [Bool.or_eq_true, Bool.and_eq_true, Bool.not_eq_true', Bool.or_eq_false_iff, Bool.and_eq_false_iff, Bool.not_eq_false', decide_eq_true_eq, decide_eq_false_iff_not, Int.not_lt, Int.not_le] at hc4
                            replace H := H.keep [] rfl
                            refine seq_still (fun K16 hK16 => ?_)
                            refine still_does H rfl (does_assign rfl) ?_; clear H a; intro a H
                            refine wpStill_nil (hK16 _ ?_)
                            clear hK16 K16
                            refine wp_ret ?_
                            refine ret1 (fn := Try.f23) rfl H rfl ?_
                            refine ⟨?_, (S.sel [] rfl rfl)⟩; unfold checkE; rw [if_pos (by unfold chainOk; simp only [decide_eq_true_eq]; omega), if_pos (by omega), all_false (k := k) (d := Gauge.zero) (by omega) (by unfold gaugeOk; simp only [decide_eq_false_iff_not]; omega)]; rfl
                          · try simp only [Bool.or_eq_true, Bool.and_eq_true, Bool.not_eq_true', Bool.or_eq_false_iff, Bool.and_eq_false_iff, Bool.not_eq_false', decide_eq_true_eq, decide_eq_false_iff_not, Int.not_lt, Int.not_le] at hc4
                            refine wp_skip ?_
                            refine hK13 _ _ ?_
                            replace H := H.keep [2, 31, 32, 33] rfl
                            refine one_still ?_
                            refine still_does H rfl (does_add rfl rfl (by unfold i64ok; omega)) ?_; clear H a; intro a H
                            refine still_does H rfl (does_move rfl) ?_; clear H a; intro a H
                            refine wpStill_nil ?_
                            exact hK10 (g1 - 1) (k + 1) a _ (by omega) (⟨by omega, by omega, all_take (d := Gauge.zero) (by omega) hp.2.2 (by unfold gaugeOk; simp only [decide_eq_true_eq]; omega)⟩) (S.sel [1] rfl rfl) (H.keep [33, 2, 31, 32] rfl)
              · try simp only [Bool.or_eq_true, Bool.and_eq_true, Bool.not_eq_true', Bool.or_eq_false_iff, Bool.and_eq_false_iff, Bool.not_eq_false', decide_eq_true_eq, decide_eq_false_iff_not, Int.not_lt, Int.not_le] at hc3
                refine wp_exit ?_
                refine hK8 _ _ ?_
                replace H := H.keep [] rfl
                refine seq_still (fun K18 hK18 => ?_)
                refine still_does H rfl (does_assign rfl) ?_; clear H a; intro a H
                refine wpStill_nil (hK18 _ ?_)
                clear hK18 K18
                refine wp_ret ?_
                refine ret1 (fn := Try.f23) rfl H rfl ?_
                refine ⟨?_, (S.sel [] rfl rfl)⟩; unfold checkE; rw [if_pos (by unfold chainOk; simp only [decide_eq_true_eq]; omega), if_pos (by omega)]; rw [List.take_of_length_le (by omega)] at hp; rw [hp.2.2, if_pos rfl]

end Go.Proofs.Ytlejjfhgfajoiaa
