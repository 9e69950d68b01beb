/- ChL. Printed by gen.py. -/
import Derived.Test.YtlejjfhgfajoiaaChK
import Derived.Test.YtlejjfhgfajoiaaPart
namespace Go.Proofs.Ytlejjfhgfajoiaa
open Go.RowKit
set_option linter.unusedVariables false
set_option linter.unusedSimpArgs false


set_option maxRecDepth 100000 in
set_option maxHeartbeats 4000000 in
theorem chain_CheckPart (rates : List (Int × Int)) (pwn ptn pag : Int) (RA : Option Addr) (rcp : Nat) (l : List Use) (A : Option Addr) (cp : Nat) (w : World) (hr : InS w noF 2 RA rates.length (scell rates)) (hrn : rates.length ≤ 9223372036854775807) (hl : InS w noF 6 A l.length (ucell l)) (hn : l.length ≤ 9223372036854775807) :
    Calls Try.prog 42 [.agg [.slice RA rates.length rcp, .int .i64 pwn, .int .i64 ptn, .int .i64 pag].toArray, .slice A l.length cp].toArray w (Ret (fun v w' => v = .int .i64 (checkP (⟨rates, pwn, ptn, pag⟩ : Part) l) ∧ St w noF [] w')) := by
  refine enter Try.func42 rfl Try.ntmps42 rfl (fun a H => ?_)
  have S := St.start w
  refine seq_list (fun K1 hK1 => ?_)
  refine list_box H rfl S rfl rfl ?_; clear H a S; intro b2 _ a hb2 hbw2 S H
  refine list_does H rfl (does_assign rfl) ?_; clear H a; intro a H
  refine hK1 _ _ ?_
  clear hK1 K1
  refine wp_seq_k (fun K2 hK2 => ?_)
  replace H := H.keep [1, 2] rfl
  refine seq_still (fun K3 hK3 => ?_)
  refine still_does H rfl (by first | exact does_field_pt fo_62_0 rfl | exact does_field fo_62_0 rfl) ?_; clear H a; intro a H
  refine still_does H rfl (does_load one_37 rfl (by first | exact boxM.rd S (i := 0) rfl rfl)) ?_; clear H a; intro a H
  refine still_does H rfl (does_len sl_37 rfl) ?_; clear H a; intro a H
  refine still_call H rfl rfl Try.func63 rfl rfl (chain_within _ _ _ _) ?_; clear H a; intro a H
  refine still_does H rfl (does_not rfl) ?_; clear H a; intro a H
  refine still_does H rfl (does_move rfl) ?_; clear H a; intro a H
  apply still_guard (i := 5) (g := 15) (t := 19) (b := false) 4 H rfl rfl (by kernel_rfl) (by kernel_rfl) rfl rfl
  case h1 =>
    intro hg6
    refine still_yes' H rfl rfl (by assumption) ?_
    refine still_does H rfl (by first | exact does_field_pt fo_62_1 rfl | exact does_field fo_62_1 rfl) ?_; intro a H
    refine still_yes' H rfl rfl (by assumption) ?_
    refine still_does H rfl (does_load one_3 rfl (by first | exact boxM.rd S (i := 0) rfl rfl)) ?_; intro a H
    refine still_yes' H rfl rfl (by assumption) ?_
    refine still_call H rfl rfl Try.func63 rfl rfl (chain_within _ _ _ _) ?_; intro a H
    refine still_yes' H rfl rfl (by assumption) ?_
    refine still_does H rfl (does_not rfl) ?_; intro a H
    exact wpStill_nil (H.strip 4 rfl rfl)
  case k =>
    clear H a; intro a H
    refine still_does H rfl (by first | exact does_or rfl rfl rfl | exact does_pick rfl rfl rfl) ?_; clear H a; intro a H
    refine still_does H rfl (does_move rfl) ?_; clear H a; intro a H
    apply still_guard (i := 11) (g := 21) (t := 25) (b := false) 4 H rfl rfl (by kernel_rfl) (by kernel_rfl) rfl rfl
    case h1 =>
      intro hg12
      refine still_yes' H rfl rfl (by assumption) ?_
      refine still_does H rfl (by first | exact does_field_pt fo_62_2 rfl | exact does_field fo_62_2 rfl) ?_; intro a H
      refine still_yes' H rfl rfl (by assumption) ?_
      refine still_does H rfl (does_load one_3 rfl (by first | exact boxM.rd S (i := 0) rfl rfl)) ?_; intro a H
      refine still_yes' H rfl rfl (by assumption) ?_
      refine still_call H rfl rfl Try.func63 rfl rfl (chain_within _ _ _ _) ?_; intro a H
      refine still_yes' H rfl rfl (by assumption) ?_
      refine still_does H rfl (does_not rfl) ?_; intro a H
      exact wpStill_nil (H.strip 4 rfl rfl)
    case k =>
      clear H a; intro a H
      refine still_does H rfl (by first | exact does_or rfl rfl rfl | exact does_pick rfl rfl rfl) ?_; clear H a; intro a H
      refine still_does H rfl (does_move rfl) ?_; clear H a; intro a H
      apply still_guard (i := 17) (g := 27) (t := 31) (b := false) 4 H rfl rfl (by kernel_rfl) (by kernel_rfl) rfl rfl
      case h1 =>
        intro hg18
        refine still_yes' H rfl rfl (by assumption) ?_
        refine still_does H rfl (by first | exact does_field_pt fo_62_3 rfl | exact does_field fo_62_3 rfl) ?_; intro a H
        refine still_yes' H rfl rfl (by assumption) ?_
        refine still_does H rfl (does_load one_3 rfl (by first | exact boxM.rd S (i := 0) rfl rfl)) ?_; intro a H
        refine still_yes' H rfl rfl (by assumption) ?_
        refine still_call H rfl rfl Try.func63 rfl rfl (chain_within _ _ _ _) ?_; intro a H
        refine still_yes' H rfl rfl (by assumption) ?_
        refine still_does H rfl (does_not rfl) ?_; intro a H
        exact wpStill_nil (H.strip 4 rfl rfl)
      case k =>
        clear H a; intro a H
        refine still_does H rfl (by first | exact does_or rfl rfl rfl | exact does_pick rfl rfl rfl) ?_; clear H a; intro a H
        refine wpStill_nil (hK3 _ ?_)
        clear hK3 K3
        refine cond_ H rfl (fun hc1 => ?_) (fun hc1 => ?_)
        · try simp only [Bool.or_eq_true, Bool.and_eq_true, Bool.not_eq_true', Bool.or_eq_false_iff, Bool.and_eq_false_iff, Bool.not_eq_false', decide_eq_true_eq, decide_eq_false_iff_not, Int.not_lt, Int.not_le] at hc1
          replace H := H.keep [] rfl
          refine seq_still (fun K4 hK4 => ?_)
          refine still_does H rfl (does_assign rfl) ?_; clear H a; intro a H
          refine wpStill_nil (hK4 _ ?_)
          clear hK4 K4
          refine wp_ret ?_
          refine ret1 (fn := Try.f42) rfl H rfl ?_
          refine ⟨?_, (S.sel [] rfl rfl)⟩; unfold checkP; rw [if_neg (by unfold partHdr; simp only [decide_eq_true_eq]; omega)]
        · try simp only [Bool.or_eq_true, Bool.and_eq_true, Bool.not_eq_true', Bool.or_eq_false_iff, Bool.and_eq_false_iff, Bool.not_eq_false', decide_eq_true_eq, decide_eq_false_iff_not, Int.not_lt, Int.not_le] at hc1
          refine wp_skip ?_
          refine hK2 _ _ ?_
          refine wp_seq_k (fun K5 hK5 => ?_)
          have hhd : partHdr (⟨rates, pwn, ptn, pag⟩ : Part) = true := by unfold partHdr; simp only [decide_eq_true_eq]; omega
          replace H := H.keep [1, 2] rfl
          refine seq_still (fun K6 hK6 => ?_)
          refine still_does H rfl (by first | exact does_field_pt fo_62_0 rfl | exact does_field fo_62_0 rfl) ?_; clear H a; intro a H
          refine still_does H rfl (does_load one_37 rfl (by first | exact boxM.rd S (i := 0) rfl rfl)) ?_; clear H a; intro a H
          refine still_does H rfl (does_len sl_37 rfl) ?_; clear H a; intro a H
          refine still_does H rfl (does_move rfl) ?_; clear H a; intro a H
          refine wpStill_nil (hK6 _ ?_)
          clear hK6 K6
          refine wp_block ?_
          refine loop_st (X := Nat) (R0 := _) [1, 2, 34, 35] H rfl (fun k => [(36, .int .i64 (k : Int))]) (fun k => []) (fun g k => k ≤ rates.length ∧ g + k = rates.length ∧ (rates.take k).all rateOk = true) (rates.length) 0 ?_ (S.sel [0] rfl rfl) (H.keep [36, 1, 2, 34, 35] rfl) ?_
          · exact ⟨by omega, by omega, by simp⟩
          · intro g1 x1 a w1 hp S H K7 hK7
            obtain ⟨k, rfl⟩ : ∃ y, y = x1 := ⟨_, rfl⟩
            skip
            replace H := H.keep [1, 2, 34, 35, 36] rfl
            refine seq_still (fun K8 hK8 => ?_)
            refine still_does H rfl (does_lss rfl rfl) ?_; clear H a; intro a H
            refine wpStill_nil (hK8 _ ?_)
            clear hK8 K8
            refine wp_seq_k (fun K9 hK9 => ?_)
            refine cond_ H rfl (fun hc2 => ?_) (fun hc2 => ?_)
            · try simp only [Bool.or_eq_true, Bool.and_eq_true, Bool.not_eq_true', Bool.or_eq_false_iff, Bool.and_eq_false_iff, Bool.not_eq_false', decide_eq_true_eq, decide_eq_false_iff_not, Int.not_lt, Int.not_le] at hc2
              refine wp_skip ?_
              refine hK9 _ _ ?_
              refine wp_seq_k (fun K10 hK10 => ?_)
              refine wp_block ?_
              replace H := H.keep [1, 2, 34, 35, 36] rfl
              refine seq_list (fun K11 hK11 => ?_)
              refine list_does H rfl (by first | exact does_indexN sl_37 sz_42 rfl rfl (by first | exact hl.adr (by omega) | exact hr.adr (by omega)) (by first | omega | omega) | exact does_index sl_37 sz_42 rfl rfl (by first | exact hl.adr (by omega) | exact hr.adr (by omega)) (by omega) (by first | omega | omega)) ?_; clear H a; intro a H
              refine list_does H rfl (by first | exact does_loadIn agg_42 sz_42 rfl S hl (by omega) (by omega) | exact does_loadIn agg_42 sz_42 rfl S hr (by omega) (by omega) | exact does_loadBox agg_42 sz_42 rfl S (i := 0) rfl rfl) ?_; clear H a; intro a H
              refine list_alloc H rfl S ze_42 ?_; clear H a S; intro b6 _ a hb6 hbw6 S H
              first | (refine list_store H S (i := 0) rfl rfl rfl rfl sz_42 rfl rfl ?_) | (refine list_store H S (i := 1) rfl rfl rfl rfl sz_42 rfl rfl ?_) | (refine list_store_own H S (i := 0) rfl rfl rfl (by omega) (by omega) sz_42 rfl ?_) | (refine list_store_own H S (i := 1) rfl rfl rfl (by omega) (by omega) sz_42 rfl ?_)
              clear H a S; intro _ a S H
              refine hK11 _ _ ?_
              clear hK11 K11
              replace H := H.keep [1, 2, 6, 34, 35, 36] rfl
              refine seq_still (fun K12 hK12 => ?_)
              refine still_does H rfl (by first | exact does_field_pt fo_42_0 rfl | exact does_field fo_42_0 rfl) ?_; clear H a; intro a H
              refine still_does H rfl (does_load one_3 rfl (by first | exact boxM.rd S (i := 0) rfl rfl | exact boxM.rd S (i := 1) rfl rfl)) ?_; clear H a; intro a H
              refine still_does H rfl (does_lss rfl rfl) ?_; clear H a; intro a H
              refine still_does H rfl (does_move rfl) ?_; clear H a; intro a H
              apply still_guard (i := 3) (g := 43) (t := 48) (b := false) 5 H rfl rfl (by kernel_rfl) (by kernel_rfl) rfl rfl
              case h1 =>
                intro hg4
                refine still_yes' H rfl rfl (by assumption) ?_
                refine still_does H rfl (by first | exact does_field_pt fo_42_1 rfl | exact does_field fo_42_1 rfl) ?_; intro a H
                refine still_yes' H rfl rfl (by assumption) ?_
                refine still_does H rfl (does_load one_3 rfl (by first | exact boxM.rd S (i := 0) rfl rfl | exact boxM.rd S (i := 1) rfl rfl)) ?_; intro a H
                refine still_yes' H rfl rfl (by assumption) ?_
                refine still_does H rfl (by first | exact does_field_pt fo_42_0 rfl | exact does_field fo_42_0 rfl) ?_; intro a H
                refine still_yes' H rfl rfl (by assumption) ?_
                refine still_does H rfl (does_load one_3 rfl (by first | exact boxM.rd S (i := 0) rfl rfl | exact boxM.rd S (i := 1) rfl rfl)) ?_; intro a H
                refine still_yes' H rfl rfl (by assumption) ?_
                refine still_does H rfl (does_lss rfl rfl) ?_; intro a H
                exact wpStill_nil (H.strip 5 rfl rfl)
              case k =>
                clear H a; intro a H
                refine still_does H rfl (by first | exact does_or rfl rfl rfl | exact does_pick rfl rfl rfl) ?_; clear H a; intro a H
                refine still_does H rfl (does_move rfl) ?_; clear H a; intro a H
                apply still_guard (i := 10) (g := 50) (t := 53) (b := false) 3 H rfl rfl (by kernel_rfl) (by kernel_rfl) rfl rfl
                case h1 =>
                  intro hg11
                  refine still_yes' H rfl rfl (by assumption) ?_
                  refine still_does H rfl (by first | exact does_field_pt fo_42_1 rfl | exact does_field fo_42_1 rfl) ?_; intro a H
                  refine still_yes' H rfl rfl (by assumption) ?_
                  refine still_does H rfl (does_load one_3 rfl (by first | exact boxM.rd S (i := 0) rfl rfl | exact boxM.rd S (i := 1) rfl rfl)) ?_; intro a H
                  refine still_yes' H rfl rfl (by assumption) ?_
                  refine still_does H rfl (does_gtr rfl rfl) ?_; intro a H
                  exact wpStill_nil (H.strip 3 rfl rfl)
                case k =>
                  clear H a; intro a H
                  refine still_does H rfl (by first | exact does_or rfl rfl rfl | exact does_pick rfl rfl rfl) ?_; clear H a; intro a H
                  refine wpStill_nil (hK12 _ ?_)
                  clear hK12 K12
                  refine cond_ H rfl (fun hc3 => ?_) (fun hc3 => ?_)
                  · try simp only [Bool.or_eq_true, Bool.and_eq_true, Bool.not_eq_true', Bool.or_eq_false_iff, Bool.and_eq_false_iff, Bool.not_eq_false', decide_eq_true_eq, decide_eq_false_iff_not, Int.not_lt, Int.not_le] at hc3
                    replace H := H.keep [] rfl
                    refine seq_still (fun K13 hK13 => ?_)
                    refine still_does H rfl (does_assign rfl) ?_; clear H a; intro a H
                    refine wpStill_nil (hK13 _ ?_)
                    clear hK13 K13
                    refine wp_ret ?_
                    refine ret1 (fn := Try.f42) rfl H rfl ?_
                    refine ⟨?_, (S.sel [] rfl rfl)⟩; unfold checkP; rw [if_pos hhd]; (try dsimp only); rw [all_false (k := k) (d := (0, 0)) (by omega) (by unfold rateOk; simp only [decide_eq_false_iff_not]; omega)]; rfl
                  · try simp only [Bool.or_eq_true, Bool.and_eq_true, Bool.not_eq_true', Bool.or_eq_false_iff, Bool.and_eq_false_iff, Bool.not_eq_false', decide_eq_true_eq, decide_eq_false_iff_not, Int.not_lt, Int.not_le] at hc3
                    refine wp_skip ?_
                    refine hK10 _ _ ?_
                    replace H := H.keep [1, 2, 34, 35, 36] rfl
                    refine one_still ?_
                    refine still_does H rfl (does_add rfl rfl (by unfold i64ok; omega)) ?_; clear H a; intro a H
                    refine still_does H rfl (does_move rfl) ?_; clear H a; intro a H
                    refine wpStill_nil ?_
                    exact hK7 (g1 - 1) (k + 1) a _ (by omega) (⟨by omega, by omega, all_take (d := (0, 0)) (by omega) hp.2.2 (by unfold rateOk; simp only [decide_eq_true_eq]; omega)⟩) (S.sel [1] rfl rfl) (H.keep [36, 1, 2, 34, 35] rfl)
            · try simp only [Bool.or_eq_true, Bool.and_eq_true, Bool.not_eq_true', Bool.or_eq_false_iff, Bool.and_eq_false_iff, Bool.not_eq_false', decide_eq_true_eq, decide_eq_false_iff_not, Int.not_lt, Int.not_le] at hc2
              refine wp_exit ?_
              refine hK5 _ _ ?_
              refine wp_seq_k (fun K15 hK15 => ?_)
              have hrt : rates.all rateOk = true := by have h9 := hp.2.2; rw [List.take_of_length_le (by omega)] at h9; exact h9
              replace H := H.keep [1, 2] rfl
              refine seq_still (fun K16 hK16 => ?_)
              refine still_does H rfl (does_move rfl) ?_; clear H a; intro a H
              refine still_does H rfl (does_len sl_63 rfl) ?_; clear H a; intro a H
              refine still_does H rfl (does_gtr rfl rfl) ?_; clear H a; intro a H
              refine wpStill_nil (hK16 _ ?_)
              clear hK16 K16
              refine cond_ H rfl (fun hc4 => ?_) (fun hc4 => ?_)
              · try simp only [Bool.or_eq_true, Bool.and_eq_true, Bool.not_eq_true', Bool.or_eq_false_iff, Bool.and_eq_false_iff, Bool.not_eq_false', decide_eq_true_eq, decide_eq_false_iff_not, Int.not_lt, Int.not_le] at hc4
                replace H := H.keep [] rfl
                refine seq_still (fun K17 hK17 => ?_)
                refine still_does H rfl (does_assign rfl) ?_; clear H a; intro a H
                refine wpStill_nil (hK17 _ ?_)
                clear hK17 K17
                refine wp_ret ?_
                refine ret1 (fn := Try.f42) rfl H rfl ?_
                refine ⟨?_, (S.sel [] rfl rfl)⟩; unfold checkP; rw [if_pos hhd, if_pos hrt, if_neg (by omega)]
              · try simp only [Bool.or_eq_true, Bool.and_eq_true, Bool.not_eq_true', Bool.or_eq_false_iff, Bool.and_eq_false_iff, Bool.not_eq_false', decide_eq_true_eq, decide_eq_false_iff_not, Int.not_lt, Int.not_le] at hc4
                refine wp_skip ?_
                refine hK15 _ _ ?_
                replace H := H.keep [1, 2] rfl
                refine seq_still (fun K18 hK18 => ?_)
                refine still_does H rfl (does_assign rfl) ?_; clear H a; intro a H
                refine wpStill_nil (hK18 _ ?_)
                clear hK18 K18
                refine wp_seq_k (fun K19 hK19 => ?_)
                replace H := H.keep [1, 2, 7] rfl
                refine seq_still (fun K20 hK20 => ?_)
                refine still_does H rfl (does_move rfl) ?_; clear H a; intro a H
                refine still_does H rfl (does_len sl_63 rfl) ?_; clear H a; intro a H
                refine still_does H rfl (does_move rfl) ?_; clear H a; intro a H
                refine wpStill_nil (hK20 _ ?_)
                clear hK20 K20
                refine wp_block ?_
                refine loop_st (X := Nat) (R0 := _) [2, 59, 60] H rfl (fun j => [(7, .int .i64 (prevD l j)), (61, .int .i64 (j : Int))]) (fun j => []) (fun g j => j ≤ l.length ∧ g + j = l.length ∧ usesTo rates.length l j = true) (l.length) 0 ?_ (S.sel [0] rfl rfl) (H.keep [7, 61, 2, 59, 60] rfl) ?_
                · exact ⟨by omega, by omega, rfl⟩
                · intro g2 x2 a w2 hp S H K21 hK21
                  obtain ⟨j, rfl⟩ : ∃ y, y = x2 := ⟨_, rfl⟩
                  skip
                  replace H := H.keep [2, 7, 59, 60, 61] rfl
                  refine seq_still (fun K22 hK22 => ?_)
                  refine still_does H rfl (does_lss rfl rfl) ?_; clear H a; intro a H
                  refine wpStill_nil (hK22 _ ?_)
                  clear hK22 K22
                  refine wp_seq_k (fun K23 hK23 => ?_)
                  refine cond_ H rfl (fun hc5 => ?_) (fun hc5 => ?_)
                  · try simp only [Bool.or_eq_true, Bool.and_eq_true, Bool.not_eq_true', Bool.or_eq_false_iff, Bool.and_eq_false_iff, Bool.not_eq_false', decide_eq_true_eq, decide_eq_false_iff_not, Int.not_lt, Int.not_le] at hc5
                    refine wp_skip ?_
                    refine hK23 _ _ ?_
                    refine wp_seq_k (fun K24 hK24 => ?_)
                    refine wp_block ?_
                    replace H := H.keep [2, 7, 59, 60, 61] rfl
                    refine seq_list (fun K25 hK25 => ?_)
                    refine list_does H rfl (by first | exact does_indexN sl_63 sz_70 rfl rfl (by first | exact hl.adr (by omega) | exact hr.adr (by omega)) (by first | omega | omega) | exact does_index sl_63 sz_70 rfl rfl (by first | exact hl.adr (by omega) | exact hr.adr (by omega)) (by omega) (by first | omega | omega)) ?_; clear H a; intro a H
                    refine list_does H rfl (by first | exact does_loadIn agg_70 sz_70 rfl S hl (by omega) (by omega) | exact does_loadIn agg_70 sz_70 rfl S hr (by omega) (by omega) | exact does_loadBox agg_70 sz_70 rfl S (i := 0) rfl rfl) ?_; clear H a; intro a H
                    refine list_alloc H rfl S ze_70 ?_; clear H a S; intro b9 _ a hb9 hbw9 S H
                    first | (refine list_store H S (i := 0) rfl rfl rfl rfl sz_70 rfl rfl ?_) | (refine list_store H S (i := 1) rfl rfl rfl rfl sz_70 rfl rfl ?_) | (refine list_store_own H S (i := 0) rfl rfl rfl (by omega) (by omega) sz_70 rfl ?_) | (refine list_store_own H S (i := 1) rfl rfl rfl (by omega) (by omega) sz_70 rfl ?_)
                    clear H a S; intro _ a S H
                    refine hK25 _ _ ?_
                    clear hK25 K25
                    refine wp_seq_k (fun K26 hK26 => ?_)
                    replace H := H.keep [2, 7, 9, 59, 60, 61] rfl
                    refine seq_still (fun K27 hK27 => ?_)
                    refine still_does H rfl (by first | exact does_field_pt fo_70_0 rfl | exact does_field fo_70_0 rfl) ?_; clear H a; intro a H
                    refine still_does H rfl (does_load one_3 rfl (by first | exact boxM.rd S (i := 0) rfl rfl | exact boxM.rd S (i := 1) rfl rfl)) ?_; clear H a; intro a H
                    refine still_does H rfl (does_move rfl) ?_; clear H a; intro a H
                    refine still_call H rfl rfl Try.func63 rfl rfl (chain_within _ _ _ _) ?_; clear H a; intro a H
                    refine still_does H rfl (does_not rfl) ?_; clear H a; intro a H
                    refine still_does H rfl (does_move rfl) ?_; clear H a; intro a H
                    apply still_guard (i := 5) (g := 70) (t := 74) (b := false) 4 H rfl rfl (by kernel_rfl) (by kernel_rfl) rfl rfl
                    case h1 =>
                      intro hg6
                      refine still_yes' H rfl rfl (by assumption) ?_
                      refine still_does H rfl (by first | exact does_field_pt fo_70_1 rfl | exact does_field fo_70_1 rfl) ?_; intro a H
                      refine still_yes' H rfl rfl (by assumption) ?_
                      refine still_does H rfl (does_load one_3 rfl (by first | exact boxM.rd S (i := 0) rfl rfl | exact boxM.rd S (i := 1) rfl rfl)) ?_; intro a H
                      refine still_yes' H rfl rfl (by assumption) ?_
                      refine still_call H rfl rfl Try.func63 rfl rfl (chain_within _ _ _ _) ?_; intro a H
                      refine still_yes' H rfl rfl (by assumption) ?_
                      refine still_does H rfl (does_not rfl) ?_; intro a H
                      exact wpStill_nil (H.strip 4 rfl rfl)
                    case k =>
                      clear H a; intro a H
                      refine still_does H rfl (by first | exact does_or rfl rfl rfl | exact does_pick rfl rfl rfl) ?_; clear H a; intro a H
                      refine still_does H rfl (does_move rfl) ?_; clear H a; intro a H
                      apply still_guard (i := 11) (g := 76) (t := 84) (b := false) 8 H rfl rfl (by kernel_rfl) (by kernel_rfl) rfl rfl
                      case h1 =>
                        intro hg12
                        refine still_yes' H rfl rfl (by assumption) ?_
                        refine still_does H rfl (by first | exact does_field_pt fo_70_2 rfl | exact does_field fo_70_2 rfl) ?_; intro a H
                        refine still_yes' H rfl rfl (by assumption) ?_
                        refine still_does H rfl (does_load one_3 rfl (by first | exact boxM.rd S (i := 0) rfl rfl | exact boxM.rd S (i := 1) rfl rfl)) ?_; intro a H
                        refine still_yes' H rfl rfl (by assumption) ?_
                        refine still_does H rfl (by first | exact does_field_pt fo_62_0 rfl | exact does_field fo_62_0 rfl) ?_; intro a H
                        refine still_yes' H rfl rfl (by assumption) ?_
                        refine still_does H rfl (does_load one_37 rfl (by first | exact boxM.rd S (i := 0) rfl rfl | exact boxM.rd S (i := 1) rfl rfl)) ?_; intro a H
                        refine still_yes' H rfl rfl (by assumption) ?_
                        refine still_does H rfl (does_len sl_37 rfl) ?_; intro a H
                        refine still_yes' H rfl rfl (by assumption) ?_
                        refine still_does H rfl (does_sub rfl rfl (by unfold i64ok; omega)) ?_; intro a H
                        refine still_yes' H rfl rfl (by assumption) ?_
                        refine still_call H rfl rfl Try.func63 rfl rfl (chain_within _ _ _ _) ?_; intro a H
                        refine still_yes' H rfl rfl (by assumption) ?_
                        refine still_does H rfl (does_not rfl) ?_; intro a H
                        exact wpStill_nil (H.strip 8 rfl rfl)
                      case k =>
                        clear H a; intro a H
                        refine still_does H rfl (by first | exact does_or rfl rfl rfl | exact does_pick rfl rfl rfl) ?_; clear H a; intro a H
                        refine wpStill_nil (hK27 _ ?_)
                        clear hK27 K27
                        refine cond_ H rfl (fun hc6 => ?_) (fun hc6 => ?_)
                        · try simp only [Bool.or_eq_true, Bool.and_eq_true, Bool.not_eq_true', Bool.or_eq_false_iff, Bool.and_eq_false_iff, Bool.not_eq_false', decide_eq_true_eq, decide_eq_false_iff_not, Int.not_lt, Int.not_le] at hc6
                          replace H := H.keep [] rfl
                          refine seq_still (fun K28 hK28 => ?_)
                          refine still_does H rfl (does_assign rfl) ?_; clear H a; intro a H
                          refine wpStill_nil (hK28 _ ?_)
                          clear hK28 K28
                          refine wp_ret ?_
                          refine ret1 (fn := Try.f42) rfl H rfl ?_
                          refine ⟨?_, (S.sel [] rfl rfl)⟩; unfold checkP; rw [if_pos hhd, if_pos hrt, if_pos (by omega)]; unfold usesTo; rw [range_all_false (k := j) (by omega) (by unfold useOk; simp only [decide_eq_false_iff_not]; omega)]; rfl
                        · try simp only [Bool.or_eq_true, Bool.and_eq_true, Bool.not_eq_true', Bool.or_eq_false_iff, Bool.and_eq_false_iff, Bool.not_eq_false', decide_eq_true_eq, decide_eq_false_iff_not, Int.not_lt, Int.not_le] at hc6
                          refine wp_skip ?_
                          refine hK26 _ _ ?_
                          refine wp_seq_k (fun K29 hK29 => ?_)
                          replace H := H.keep [2, 9, 59, 60, 61] rfl
                          refine seq_still (fun K30 hK30 => ?_)
                          refine still_does H rfl (by first | exact does_field_pt fo_70_4 rfl | exact does_field fo_70_4 rfl) ?_; clear H a; intro a H
                          refine still_does H rfl (by first | exact does_field_pt fo_42_0 rfl | exact does_field fo_42_0 rfl) ?_; clear H a; intro a H
                          refine still_does H rfl (does_load one_3 rfl (by first | exact boxM.rd S (i := 0) rfl rfl | exact boxM.rd S (i := 1) rfl rfl)) ?_; clear H a; intro a H
                          refine still_does H rfl (does_lss rfl rfl) ?_; clear H a; intro a H
                          refine still_does H rfl (does_move rfl) ?_; clear H a; intro a H
                          apply still_guard (i := 4) (g := 90) (t := 97) (b := false) 7 H rfl rfl (by kernel_rfl) (by kernel_rfl) rfl rfl
                          case h1 =>
                            intro hg5
                            refine still_yes' H rfl rfl (by assumption) ?_
                            refine still_does H rfl (by first | exact does_field_pt fo_70_4 rfl | exact does_field fo_70_4 rfl) ?_; intro a H
                            refine still_yes' H rfl rfl (by assumption) ?_
                            refine still_does H rfl (by first | exact does_field_pt fo_42_1 rfl | exact does_field fo_42_1 rfl) ?_; intro a H
                            refine still_yes' H rfl rfl (by assumption) ?_
                            refine still_does H rfl (does_load one_3 rfl (by first | exact boxM.rd S (i := 0) rfl rfl | exact boxM.rd S (i := 1) rfl rfl)) ?_; intro a H
                            refine still_yes' H rfl rfl (by assumption) ?_
                            refine still_does H rfl (by first | exact does_field_pt fo_70_4 rfl | exact does_field fo_70_4 rfl) ?_; intro a H
                            refine still_yes' H rfl rfl (by assumption) ?_
                            refine still_does H rfl (by first | exact does_field_pt fo_42_0 rfl | exact does_field fo_42_0 rfl) ?_; intro a H
                            refine still_yes' H rfl rfl (by assumption) ?_
                            refine still_does H rfl (does_load one_3 rfl (by first | exact boxM.rd S (i := 0) rfl rfl | exact boxM.rd S (i := 1) rfl rfl)) ?_; intro a H
                            refine still_yes' H rfl rfl (by assumption) ?_
                            refine still_does H rfl (does_lss rfl rfl) ?_; intro a H
                            exact wpStill_nil (H.strip 7 rfl rfl)
                          case k =>
                            clear H a; intro a H
                            refine still_does H rfl (by first | exact does_or rfl rfl rfl | exact does_pick rfl rfl rfl) ?_; clear H a; intro a H
                            refine still_does H rfl (does_move rfl) ?_; clear H a; intro a H
                            apply still_guard (i := 13) (g := 99) (t := 103) (b := false) 4 H rfl rfl (by kernel_rfl) (by kernel_rfl) rfl rfl
                            case h1 =>
                              intro hg14
                              refine still_yes' H rfl rfl (by assumption) ?_
                              refine still_does H rfl (by first | exact does_field_pt fo_70_4 rfl | exact does_field fo_70_4 rfl) ?_; intro a H
                              refine still_yes' H rfl rfl (by assumption) ?_
                              refine still_does H rfl (by first | exact does_field_pt fo_42_1 rfl | exact does_field fo_42_1 rfl) ?_; intro a H
                              refine still_yes' H rfl rfl (by assumption) ?_
                              refine still_does H rfl (does_load one_3 rfl (by first | exact boxM.rd S (i := 0) rfl rfl | exact boxM.rd S (i := 1) rfl rfl)) ?_; intro a H
                              refine still_yes' H rfl rfl (by assumption) ?_
                              refine still_does H rfl (does_gtr rfl rfl) ?_; intro a H
                              exact wpStill_nil (H.strip 4 rfl rfl)
                            case k =>
                              clear H a; intro a H
                              refine still_does H rfl (by first | exact does_or rfl rfl rfl | exact does_pick rfl rfl rfl) ?_; clear H a; intro a H
                              refine still_does H rfl (does_move rfl) ?_; clear H a; intro a H
                              apply still_guard (i := 19) (g := 105) (t := 114) (b := false) 9 H rfl rfl (by kernel_rfl) (by kernel_rfl) rfl rfl
                              case h1 =>
                                intro hg20
                                refine still_yes' H rfl rfl (by assumption) ?_
                                refine still_does H rfl (by first | exact does_field_pt fo_70_3 rfl | exact does_field fo_70_3 rfl) ?_; intro a H
                                refine still_yes' H rfl rfl (by assumption) ?_
                                refine still_does H rfl (does_load one_4 rfl (by first | exact boxM.rd S (i := 0) rfl rfl | exact boxM.rd S (i := 1) rfl rfl)) ?_; intro a H
                                refine still_yes' H rfl rfl (by assumption) ?_
                                refine still_does H rfl (does_not rfl) ?_; intro a H
                                refine still_yes' H rfl rfl (by assumption) ?_
                                refine still_does H rfl (does_move rfl) ?_; intro a H
                                apply still_guard (i := 23) (g := 109) (t := 113) (b := true) 4 H rfl rfl (by kernel_rfl) (by kernel_rfl) rfl rfl
                                case h1 =>
                                  intro hg24
                                  refine still_yes' H rfl rfl (by assumption) ?_
                                  refine still_does H rfl (by first | exact does_field_pt fo_70_4 rfl | exact does_field fo_70_4 rfl) ?_; intro a H
                                  refine still_yes' H rfl rfl (by assumption) ?_
                                  refine still_does H rfl (by first | exact does_loadIn agg_42 sz_42 rfl S hl (by omega) (by omega) | exact does_loadIn agg_42 sz_42 rfl S hr (by omega) (by omega) | exact does_loadBox agg_42 sz_42 rfl S (i := 0) rfl rfl | exact does_loadBox agg_42 sz_42 rfl S (i := 1) rfl rfl) ?_; intro a H
                                  refine still_yes' H rfl rfl (by assumption) ?_
                                  refine still_does H rfl (does_build bt_42 rfl rfl) ?_; intro a H
                                  refine still_yes' H rfl rfl (by assumption) ?_
                                  refine still_does H rfl (does_neq_span rfl rfl) ?_; intro a H
                                  exact wpStill_nil (H.strip 4 rfl rfl)
                                case k =>
                                  intro a H
                                  refine still_yes' H rfl rfl (by assumption) ?_
                                  refine still_does H rfl (by first | exact does_and rfl rfl rfl | exact does_pick rfl rfl rfl) ?_; intro a H
                                  exact wpStill_nil (H.strip 6 rfl rfl)
                              case k =>
                                clear H a; intro a H
                                refine still_does H rfl (by first | exact does_or rfl rfl rfl | exact does_pick rfl rfl rfl) ?_; clear H a; intro a H
                                refine wpStill_nil (hK30 _ ?_)
                                clear hK30 K30
                                refine cond_ H rfl (fun hc7 => ?_) (fun hc7 => ?_)
                                · try simp only [Bool.or_eq_true, Bool.and_eq_true, Bool.not_eq_true', Bool.or_eq_false_iff, Bool.and_eq_false_iff, Bool.not_eq_false', decide_eq_true_eq, decide_eq_false_iff_not, Int.not_lt, Int.not_le] at hc7
                                  replace H := H.keep [] rfl
                                  refine seq_still (fun K31 hK31 => ?_)
                                  refine still_does H rfl (does_assign rfl) ?_; clear H a; intro a H
                                  refine wpStill_nil (hK31 _ ?_)
                                  clear hK31 K31
                                  refine wp_ret ?_
                                  refine ret1 (fn := Try.f42) rfl H rfl ?_
                                  refine ⟨?_, (S.sel [] rfl rfl)⟩; unfold checkP; rw [if_pos hhd, if_pos hrt, if_pos (by omega)]; unfold usesTo; rw [range_all_false (k := j) (by omega) (by unfold useOk; simp only [decide_eq_false_iff_not]; generalize l.getD j Use.zero = u at hc6 hc7 ⊢; rintro ⟨_, _, _, _, hm⟩; cases hq : u.meas <;> simp [hq] at hc7 hm <;> omega)]; rfl
                                · try simp only [Bool.or_eq_true, Bool.and_eq_true, Bool.not_eq_true', Bool.or_eq_false_iff, Bool.and_eq_false_iff, Bool.not_eq_false', decide_eq_true_eq, decide_eq_false_iff_not, Int.not_lt, Int.not_le] at hc7
                                  refine wp_skip ?_
                                  refine hK29 _ _ ?_
                                  replace H := H.keep [2, 9, 59, 60, 61] rfl
                                  refine one_still ?_
                                  refine still_does H rfl (by first | exact does_field_pt fo_70_0 rfl | exact does_field fo_70_0 rfl) ?_; clear H a; intro a H
                                  refine still_does H rfl (does_load one_3 rfl (by first | exact boxM.rd S (i := 0) rfl rfl | exact boxM.rd S (i := 1) rfl rfl)) ?_; clear H a; intro a H
                                  refine still_does H rfl (does_assign rfl) ?_; clear H a; intro a H
                                  refine wpStill_nil ?_
                                  refine hK24 _ _ ?_
                                  replace H := H.keep [2, 7, 59, 60, 61] rfl
                                  refine one_still ?_
                                  refine still_does H rfl (does_add rfl rfl (by unfold i64ok; omega)) ?_; clear H a; intro a H
                                  refine still_does H rfl (does_move rfl) ?_; clear H a; intro a H
                                  refine wpStill_nil ?_
                                  exact hK21 (g2 - 1) (j + 1) a _ (by omega) (⟨by omega, by omega, by unfold usesTo; rw [range_all_succ (n := 0)]; have h9 := hp.2.2; unfold usesTo at h9; rw [h9]; simp only [Bool.true_and]; unfold useOk; simp only [decide_eq_true_eq]; generalize l.getD j Use.zero = u at hc6 hc7 ⊢; refine ⟨by omega, by omega, by omega, by omega, fun hm => ?_⟩; simp [hm] at hc7; omega⟩) (S.sel [1] rfl rfl) (H.keep [7, 61, 2, 59, 60] rfl)
                  · try simp only [Bool.or_eq_true, Bool.and_eq_true, Bool.not_eq_true', Bool.or_eq_false_iff, Bool.and_eq_false_iff, Bool.not_eq_false', decide_eq_true_eq, decide_eq_false_iff_not, Int.not_lt, Int.not_le] at hc5
                    refine wp_exit ?_
                    refine hK19 _ _ ?_
                    replace H := H.keep [] rfl
                    refine seq_still (fun K34 hK34 => ?_)
                    refine still_does H rfl (does_assign rfl) ?_; clear H a; intro a H
                    refine wpStill_nil (hK34 _ ?_)
                    clear hK34 K34
                    refine wp_ret ?_
                    refine ret1 (fn := Try.f42) rfl H rfl ?_
                    refine ⟨?_, (S.sel [] rfl rfl)⟩; have hj9 : j = l.length := by omega
                    unfold checkP; rw [if_pos hhd, if_pos hrt, if_pos (by omega)]; rw [hj9] at hp; dsimp only; rw [if_pos hp.2.2]

set_option maxRecDepth 100000 in
set_option maxHeartbeats 1000000 in
theorem chain_grown (rates : List (Int × Int)) (pwn ptn pag : Int) (RA : Option Addr) (rcp : Nat) (u : Use) (w : World) (hr : InS w noF 2 RA rates.length (scell rates)) (hrn : rates.length ≤ 9223372036854775807) (hcl : 0 ≤ u.cls ∧ u.cls < rates.length) (hg1 : i64ok (grownS (⟨rates, pwn, ptn, pag⟩ : Part) u).1) (hg2 : i64ok (grownS (⟨rates, pwn, ptn, pag⟩ : Part) u).2) :
    Calls Try.prog 86 [.agg [.slice RA rates.length rcp, .int .i64 pwn, .int .i64 ptn, .int .i64 pag].toArray, .agg [.int .i64 u.day, .int .i64 u.turns, .int .i64 u.cls, .bool u.meas, .int .i64 u.lo, .int .i64 u.hi].toArray].toArray w (Ret (fun v w' => v = .agg [.int .i64 (grownS (⟨rates, pwn, ptn, pag⟩ : Part) u).1, .int .i64 (grownS (⟨rates, pwn, ptn, pag⟩ : Part) u).2].toArray ∧ St w noF [] w')) := by
  refine enter Try.func86 rfl Try.ntmps86 rfl (fun a H => ?_)
  have S := St.start w
  refine seq_list (fun K1 hK1 => ?_)
  refine list_box H rfl S rfl rfl ?_; clear H a S; intro b2 _ a hb2 hbw2 S H
  refine list_box H rfl S rfl rfl ?_; clear H a S; intro b3 _ a hb3 hbw3 S H
  refine list_alloc H rfl S ze_42 ?_; clear H a S; intro b4 _ a hb4 hbw4 S H
  refine hK1 _ _ ?_
  clear hK1 K1
  replace H := H.keep [2, 3, 4] rfl
  refine seq_list (fun K2 hK2 => ?_)
  refine list_does H rfl (by first | exact does_field_pt fo_62_0 rfl | exact does_field fo_62_0 rfl) ?_; clear H a; intro a H
  refine list_does H rfl (does_load one_37 rfl (by first | exact boxM.rd S (i := 0) rfl rfl | exact boxM.rd S (i := 1) rfl rfl | exact boxM.rd S (i := 2) rfl rfl)) ?_; clear H a; intro a H
  refine list_does H rfl (by first | exact does_field_pt fo_70_2 rfl | exact does_field fo_70_2 rfl) ?_; clear H a; intro a H
  refine list_does H rfl (does_load one_3 rfl (by first | exact boxM.rd S (i := 0) rfl rfl | exact boxM.rd S (i := 1) rfl rfl | exact boxM.rd S (i := 2) rfl rfl)) ?_; clear H a; intro a H
  refine list_does H rfl (by first | exact does_indexN sl_37 sz_42 rfl rfl (by first | exact hr.adr (by omega)) (by first | omega | omega) | exact does_index sl_37 sz_42 rfl rfl (by first | exact hr.adr (by omega)) (by omega) (by first | omega | omega)) ?_; clear H a; intro a H
  refine list_does H rfl (by first | exact does_loadIn agg_42 sz_42 rfl S hr (by omega) (by omega) | exact does_loadBox agg_42 sz_42 rfl S (i := 0) rfl rfl | exact does_loadBox agg_42 sz_42 rfl S (i := 1) rfl rfl | exact does_loadBox agg_42 sz_42 rfl S (i := 2) rfl rfl) ?_; clear H a; intro a H
  refine list_alloc H rfl S ze_42 ?_; clear H a S; intro b5 _ a hb5 hbw5 S H
  first | (refine list_store H S (i := 0) rfl rfl rfl rfl sz_42 rfl rfl ?_) | (refine list_store H S (i := 1) rfl rfl rfl rfl sz_42 rfl rfl ?_) | (refine list_store H S (i := 2) rfl rfl rfl rfl sz_42 rfl rfl ?_) | (refine list_store H S (i := 3) rfl rfl rfl rfl sz_42 rfl rfl ?_) | (refine list_store_own H S (i := 0) rfl rfl rfl (by omega) (by omega) sz_42 rfl ?_) | (refine list_store_own H S (i := 1) rfl rfl rfl (by omega) (by omega) sz_42 rfl ?_) | (refine list_store_own H S (i := 2) rfl rfl rfl (by omega) (by omega) sz_42 rfl ?_) | (refine list_store_own H S (i := 3) rfl rfl rfl (by omega) (by omega) sz_42 rfl ?_)
  clear H a S; intro _ a S H
  refine hK2 _ _ ?_
  clear hK2 K2
  replace H := H.keep [3, 4, 5] rfl
  refine seq_list (fun K3 hK3 => ?_)
  refine list_does H rfl (by first | exact does_field_pt fo_70_1 rfl | exact does_field fo_70_1 rfl) ?_; clear H a; intro a H
  refine list_does H rfl (does_load one_3 rfl (by first | exact boxM.rd S (i := 0) rfl rfl | exact boxM.rd S (i := 1) rfl rfl | exact boxM.rd S (i := 2) rfl rfl | exact boxM.rd S (i := 3) rfl rfl)) ?_; clear H a; intro a H
  refine list_does H rfl (by first | exact does_field_pt fo_42_0 rfl | exact does_field fo_42_0 rfl) ?_; clear H a; intro a H
  refine list_does H rfl (does_load one_3 rfl (by first | exact boxM.rd S (i := 0) rfl rfl | exact boxM.rd S (i := 1) rfl rfl | exact boxM.rd S (i := 2) rfl rfl | exact boxM.rd S (i := 3) rfl rfl)) ?_; clear H a; intro a H
  refine list_does H rfl (does_mul rfl rfl (by exact hg1)) ?_; clear H a; intro a H
  refine list_does H rfl (by first | exact does_field_pt fo_70_1 rfl | exact does_field fo_70_1 rfl) ?_; clear H a; intro a H
  refine list_does H rfl (does_load one_3 rfl (by first | exact boxM.rd S (i := 0) rfl rfl | exact boxM.rd S (i := 1) rfl rfl | exact boxM.rd S (i := 2) rfl rfl | exact boxM.rd S (i := 3) rfl rfl)) ?_; clear H a; intro a H
  refine list_does H rfl (by first | exact does_field_pt fo_42_1 rfl | exact does_field fo_42_1 rfl) ?_; clear H a; intro a H
  refine list_does H rfl (does_load one_3 rfl (by first | exact boxM.rd S (i := 0) rfl rfl | exact boxM.rd S (i := 1) rfl rfl | exact boxM.rd S (i := 2) rfl rfl | exact boxM.rd S (i := 3) rfl rfl)) ?_; clear H a; intro a H
  refine list_does H rfl (does_mul rfl rfl (by exact hg2)) ?_; clear H a; intro a H
  refine list_does H rfl (does_build bt_42 rfl rfl) ?_; clear H a; intro a H
  first | (refine list_store H S (i := 0) rfl rfl rfl rfl sz_42 rfl rfl ?_) | (refine list_store H S (i := 1) rfl rfl rfl rfl sz_42 rfl rfl ?_) | (refine list_store H S (i := 2) rfl rfl rfl rfl sz_42 rfl rfl ?_) | (refine list_store H S (i := 3) rfl rfl rfl rfl sz_42 rfl rfl ?_) | (refine list_store_own H S (i := 0) rfl rfl rfl (by omega) (by omega) sz_42 rfl ?_) | (refine list_store_own H S (i := 1) rfl rfl rfl (by omega) (by omega) sz_42 rfl ?_) | (refine list_store_own H S (i := 2) rfl rfl rfl (by omega) (by omega) sz_42 rfl ?_) | (refine list_store_own H S (i := 3) rfl rfl rfl (by omega) (by omega) sz_42 rfl ?_)
  clear H a S; intro _ a S H
  refine hK3 _ _ ?_
  clear hK3 K3
  refine wp_ret ?_
  refine retA (fn := Try.f86) rfl H rfl agg_42 (by exact sz_42) (boxAgg S (i := 1) rfl) ?_
  exact ⟨rfl, (S.sel [] rfl rfl)⟩

set_option maxRecDepth 100000 in
set_option maxHeartbeats 1000000 in
theorem chain_meet (a1 a2 b1 b2 : Int) (w : World) :
    Calls Try.prog 87 [.agg [.int .i64 a1, .int .i64 a2].toArray, .agg [.int .i64 b1, .int .i64 b2].toArray].toArray w (Ret (fun v w' => v = .tuple #[.agg [.int .i64 (meetS (a1, a2) (b1, b2)).1, .int .i64 (meetS (a1, a2) (b1, b2)).2].toArray, .bool (decide ((meetS (a1, a2) (b1, b2)).1 ≤ (meetS (a1, a2) (b1, b2)).2))] ∧ St w noF [] w')) := by
  refine enter Try.func87 rfl Try.ntmps87 rfl (fun a H => ?_)
  have S := St.start w
  refine seq_list (fun K1 hK1 => ?_)
  refine list_box H rfl S rfl rfl ?_; clear H a S; intro b2 _ a hb2 hbw2 S H
  refine list_box H rfl S rfl rfl ?_; clear H a S; intro b3 _ a hb3 hbw3 S H
  refine list_alloc H rfl S ze_42 ?_; clear H a S; intro b4 _ a hb4 hbw4 S H
  refine list_does H rfl (does_assign rfl) ?_; clear H a; intro a H
  refine hK1 _ _ ?_
  clear hK1 K1
  replace H := H.keep [2, 3, 4] rfl
  refine seq_list (fun K2 hK2 => ?_)
  refine list_does H rfl (by first | exact does_field_pt fo_42_0 rfl | exact does_field fo_42_0 rfl) ?_; clear H a; intro a H
  refine list_does H rfl (does_load one_3 rfl (by first | exact boxM.rd S (i := 0) rfl rfl | exact boxM.rd S (i := 1) rfl rfl | exact boxM.rd S (i := 2) rfl rfl)) ?_; clear H a; intro a H
  refine list_does H rfl (by first | exact does_field_pt fo_42_0 rfl | exact does_field fo_42_0 rfl) ?_; clear H a; intro a H
  refine list_does H rfl (does_load one_3 rfl (by first | exact boxM.rd S (i := 0) rfl rfl | exact boxM.rd S (i := 1) rfl rfl | exact boxM.rd S (i := 2) rfl rfl)) ?_; clear H a; intro a H
  refine list_does H rfl (does_max rfl rfl) ?_; clear H a; intro a H
  refine list_does H rfl (by first | exact does_field_pt fo_42_1 rfl | exact does_field fo_42_1 rfl) ?_; clear H a; intro a H
  refine list_does H rfl (does_load one_3 rfl (by first | exact boxM.rd S (i := 0) rfl rfl | exact boxM.rd S (i := 1) rfl rfl | exact boxM.rd S (i := 2) rfl rfl)) ?_; clear H a; intro a H
  refine list_does H rfl (by first | exact does_field_pt fo_42_1 rfl | exact does_field fo_42_1 rfl) ?_; clear H a; intro a H
  refine list_does H rfl (does_load one_3 rfl (by first | exact boxM.rd S (i := 0) rfl rfl | exact boxM.rd S (i := 1) rfl rfl | exact boxM.rd S (i := 2) rfl rfl)) ?_; clear H a; intro a H
  refine list_does H rfl (does_min rfl rfl) ?_; clear H a; intro a H
  refine list_does H rfl (does_build bt_42 rfl rfl) ?_; clear H a; intro a H
  refine list_alloc H rfl S ze_42 ?_; clear H a S; intro b6 _ a hb6 hbw6 S H
  first | (refine list_store H S (i := 0) rfl rfl rfl rfl sz_42 rfl rfl ?_) | (refine list_store H S (i := 1) rfl rfl rfl rfl sz_42 rfl rfl ?_) | (refine list_store H S (i := 2) rfl rfl rfl rfl sz_42 rfl rfl ?_) | (refine list_store H S (i := 3) rfl rfl rfl rfl sz_42 rfl rfl ?_) | (refine list_store_own H S (i := 0) rfl rfl rfl (by omega) (by omega) sz_42 rfl ?_) | (refine list_store_own H S (i := 1) rfl rfl rfl (by omega) (by omega) sz_42 rfl ?_) | (refine list_store_own H S (i := 2) rfl rfl rfl (by omega) (by omega) sz_42 rfl ?_) | (refine list_store_own H S (i := 3) rfl rfl rfl (by omega) (by omega) sz_42 rfl ?_)
  clear H a S; intro _ a S H
  refine hK2 _ _ ?_
  clear hK2 K2
  replace H := H.keep [4, 6] rfl
  replace S := S.drew
  refine seq_wq [(0, true), (1, true), (2, true), (3, true), (4, true), (5, true), (6, false), (7, true)] (by kernel_rfl) (by kernel_rfl) (S.sel [0, 2, 3] rfl rfl) (fun K3 hK3 => ?_)
  refine wq_does H rfl rfl (fun _ S => by first | exact does_loadBox agg_42 sz_42 rfl S (i := 0) rfl rfl | exact does_loadBox agg_42 sz_42 rfl S (i := 1) rfl rfl | exact does_loadBox agg_42 sz_42 rfl S (i := 2) rfl rfl) ?_; clear H a; intro a H
  refine wq_does H rfl rfl (fun _ S => by first | exact does_field_pt fo_42_0 rfl | exact does_field fo_42_0 rfl) ?_; clear H a; intro a H
  refine wq_does H rfl rfl (fun _ S => does_load one_3 rfl (by first | exact boxM.rd S (i := 0) rfl rfl | exact boxM.rd S (i := 1) rfl rfl | exact boxM.rd S (i := 2) rfl rfl)) ?_; clear H a; intro a H
  refine wq_does H rfl rfl (fun _ S => by first | exact does_field_pt fo_42_1 rfl | exact does_field fo_42_1 rfl) ?_; clear H a; intro a H
  refine wq_does H rfl rfl (fun _ S => does_load one_3 rfl (by first | exact boxM.rd S (i := 0) rfl rfl | exact boxM.rd S (i := 1) rfl rfl | exact boxM.rd S (i := 2) rfl rfl)) ?_; clear H a; intro a H
  refine wq_does H rfl rfl (fun _ S => does_leq rfl rfl) ?_; clear H a; intro a H
  refine wq_eff rfl ?_
  first | (refine list_store H S (i := 0) rfl rfl rfl rfl sz_42 rfl rfl ?_) | (refine list_store H S (i := 1) rfl rfl rfl rfl sz_42 rfl rfl ?_) | (refine list_store H S (i := 2) rfl rfl rfl rfl sz_42 rfl rfl ?_) | (refine list_store H S (i := 3) rfl rfl rfl rfl sz_42 rfl rfl ?_) | (refine list_store_own H S (i := 0) rfl rfl rfl (by omega) (by omega) sz_42 rfl ?_) | (refine list_store_own H S (i := 1) rfl rfl rfl (by omega) (by omega) sz_42 rfl ?_) | (refine list_store_own H S (i := 2) rfl rfl rfl (by omega) (by omega) sz_42 rfl ?_) | (refine list_store_own H S (i := 3) rfl rfl rfl (by omega) (by omega) sz_42 rfl ?_)
  clear H a S; intro _ a S H
  refine wpList_nil (And.intro (S.sel [0, 2, 3] rfl rfl) ?_)
  refine wq_does H rfl rfl (fun _ S => does_assign rfl) ?_; clear H a; intro a H
  refine wq_nil ?_
  refine hK3 _ _ ?_
  clear hK3 K3
  refine wp_ret ?_
  refine retA1 (fn := Try.f87) rfl H rfl agg_42 (by exact sz_42) (boxAgg S (i := 1) rfl) rfl ?_
  exact ⟨rfl, (S.sel [] rfl rfl)⟩

end Go.Proofs.Ytlejjfhgfajoiaa
