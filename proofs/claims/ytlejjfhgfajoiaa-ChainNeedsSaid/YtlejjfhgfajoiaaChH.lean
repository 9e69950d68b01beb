/- ChH. Printed by gen.py. -/
import Derived.Test.YtlejjfhgfajoiaaChG
import Derived.Test.YtlejjfhgfajoiaaAdd
namespace Go.Proofs.Ytlejjfhgfajoiaa
open Go.RowKit
set_option linter.unusedVariables false
set_option linter.unusedSimpArgs false


theorem cell_one (g : Gauge) (j : Nat) : (g.cell j).oneCell' = true := by
  unfold Gauge.cell
  split <;> rfl
theorem gcell_one (l : List Gauge) : ∀ k j, k < l.length → j < 4 → (gcell l k j).oneCell' = true := fun k j _ _ => cell_one _ j


set_option maxRecDepth 100000 in
set_option maxHeartbeats 1000000 in
theorem ref_from (n lo hi : Int) (w : World) :
    Calls Try.prog 67 [.int .i64 n, .int .i64 lo, .int .i64 hi].toArray w (Ret (fun v w' => v = .bool (decide (lo ≤ n) && decide (n ≤ hi)) ∧ w' = w)) := by
  refine enter Try.func67 rfl Try.ntmps67 rfl (fun a H => ?_)
  have S := St.start w
  refine seq_still (fun K1 hK1 => ?_)
  refine still_does H rfl (does_assign rfl) ?_; clear H a; intro a H
  refine wpStill_nil (hK1 _ ?_)
  clear hK1 K1
  replace H := H.keep [0, 1, 2] rfl
  refine seq_still (fun K2 hK2 => ?_)
  refine still_does H rfl (does_move rfl) ?_; clear H a; intro a H
  refine still_does H rfl (does_move rfl) ?_; clear H a; intro a H
  refine still_does H rfl (does_geq rfl rfl) ?_; clear H a; intro a H
  refine still_does H rfl (does_move rfl) ?_; clear H a; intro a H
  apply still_guard (i := 3) (g := 10) (t := 13) (b := true) 3 H rfl rfl (by kernel_rfl) (by kernel_rfl) rfl rfl
  case h1 =>
    intro hg4
    refine still_yes' H rfl rfl (by assumption) ?_
    refine still_does H rfl (does_move rfl) ?_; intro a H
    refine still_yes' H rfl rfl (by assumption) ?_
    refine still_does H rfl (does_move rfl) ?_; intro a H
    refine still_yes' H rfl rfl (by assumption) ?_
    refine still_does H rfl (does_leq rfl rfl) ?_; intro a H
    exact wpStill_nil (H.strip 3 rfl rfl)
  case k =>
    clear H a; intro a H
    refine still_does H rfl (by first | exact does_and rfl rfl rfl | exact does_pick rfl rfl rfl) ?_; clear H a; intro a H
    refine still_does H rfl (does_assign rfl) ?_; clear H a; intro a H
    refine wpStill_nil (hK2 _ ?_)
    clear hK2 K2
    refine wp_ret ?_
    refine ret1 (fn := Try.f67) rfl H rfl ?_
    exact ⟨rfl, rfl⟩

set_option maxRecDepth 100000 in
set_option maxHeartbeats 1000000 in
theorem ref_CheckChain (links pitch limit : Int) (w : World) :
    Calls Try.prog 69 [.agg [.int .i64 links, .int .i64 pitch, .int .i64 limit].toArray].toArray w (Ret (fun v w' => v = .int .i64 (if chainOk (⟨links, pitch, limit⟩ : Chain) then 0 else 20) ∧ St w noF [] w')) := by
  refine enter Try.func69 rfl Try.ntmps69 rfl (fun a H => ?_)
  have S := St.start w
  refine seq_list (fun K1 hK1 => ?_)
  refine list_box H rfl S rfl rfl ?_; clear H a S; intro b1 _ a hb1 hbw1 S H
  refine list_does H rfl (does_assign rfl) ?_; clear H a; intro a H
  refine hK1 _ _ ?_
  clear hK1 K1
  refine wp_seq_k (fun K2 hK2 => ?_)
  replace H := H.keep [1] rfl
  refine seq_still (fun K3 hK3 => ?_)
  refine still_does H rfl (by first | exact does_field_pt fo_23_0 rfl | exact does_field fo_23_0 rfl) ?_; clear H a; intro a H
  refine still_does H rfl (does_load one_3 rfl (by first | exact boxM.rd S (i := 0) rfl rfl)) ?_; clear H a; intro a H
  refine still_call H rfl rfl Try.func67 rfl rfl (ref_from _ _ _ _) ?_; clear H a; intro a H
  refine still_does H rfl (does_not rfl) ?_; clear H a; intro a H
  refine still_does H rfl (does_move rfl) ?_; clear H a; intro a H
  apply still_guard (i := 4) (g := 7) (t := 13) (b := false) 6 H rfl rfl (by kernel_rfl) (by kernel_rfl) rfl rfl
  case h1 =>
    intro hg5
    refine still_yes' H rfl rfl (by assumption) ?_
    refine still_does H rfl (by first | exact does_field_pt fo_23_1 rfl | exact does_field fo_23_1 rfl) ?_; intro a H
    refine still_yes' H rfl rfl (by assumption) ?_
    refine still_does H rfl (does_load one_3 rfl (by first | exact boxM.rd S (i := 0) rfl rfl)) ?_; intro a H
    refine still_yes' H rfl rfl (by assumption) ?_
    refine still_does H rfl (by first | exact does_field_pt fo_23_2 rfl | exact does_field fo_23_2 rfl) ?_; intro a H
    refine still_yes' H rfl rfl (by assumption) ?_
    refine still_does H rfl (does_load one_3 rfl (by first | exact boxM.rd S (i := 0) rfl rfl)) ?_; intro a H
    refine still_yes' H rfl rfl (by assumption) ?_
    refine still_call H rfl rfl Try.func67 rfl rfl (ref_from _ _ _ _) ?_; intro a H
    refine still_yes' H rfl rfl (by assumption) ?_
    refine still_does H rfl (does_not rfl) ?_; intro a H
    exact wpStill_nil (H.strip 6 rfl rfl)
  case k =>
    clear H a; intro a H
    refine still_does H rfl (by first | exact does_or rfl rfl rfl | exact does_pick rfl rfl rfl) ?_; clear H a; intro a H
    refine still_does H rfl (does_move rfl) ?_; clear H a; intro a H
    apply still_guard (i := 12) (g := 15) (t := 18) (b := false) 3 H rfl rfl (by kernel_rfl) (by kernel_rfl) rfl rfl
    case h1 =>
      intro hg13
      refine still_yes' H rfl rfl (by assumption) ?_
      refine still_does H rfl (by first | exact does_field_pt fo_23_2 rfl | exact does_field fo_23_2 rfl) ?_; intro a H
      refine still_yes' H rfl rfl (by assumption) ?_
      refine still_does H rfl (does_load one_3 rfl (by first | exact boxM.rd S (i := 0) rfl rfl)) ?_; intro a H
      refine still_yes' H rfl rfl (by assumption) ?_
      refine still_does H rfl (does_gtr rfl rfl) ?_; intro a H
      exact wpStill_nil (H.strip 3 rfl rfl)
    case k =>
      clear H a; intro a H
      refine still_does H rfl (by first | exact does_or rfl rfl rfl | exact does_pick rfl rfl rfl) ?_; clear H a; intro a H
      refine wpStill_nil (hK3 _ ?_)
      clear hK3 K3
      refine cond_ H rfl (fun hc1 => ?_) (fun hc1 => ?_)
      · try simp only [Bool.or_eq_true, Bool.and_eq_true, Bool.not_eq_true', Bool.or_eq_false_iff, Bool.and_eq_false_iff, Bool.not_eq_false', decide_eq_true_eq, decide_eq_false_iff_not, Int.not_lt, Int.not_le] at hc1
        replace H := H.keep [] rfl
        refine seq_still (fun K4 hK4 => ?_)
        refine still_does H rfl (does_assign rfl) ?_; clear H a; intro a H
        refine wpStill_nil (hK4 _ ?_)
        clear hK4 K4
        refine wp_ret ?_
        refine ret1 (fn := Try.f69) rfl H rfl ?_
        refine ⟨?_, (S.sel [] rfl rfl)⟩; rw [if_neg (by unfold chainOk; simp only [decide_eq_true_eq]; omega)]
      · try simp only [Bool.or_eq_true, Bool.and_eq_true, Bool.not_eq_true', Bool.or_eq_false_iff, Bool.and_eq_false_iff, Bool.not_eq_false', decide_eq_true_eq, decide_eq_false_iff_not, Int.not_lt, Int.not_le] at hc1
        refine wp_skip ?_
        refine hK2 _ _ ?_
        replace H := H.keep [] rfl
        refine seq_still (fun K5 hK5 => ?_)
        refine still_does H rfl (does_assign rfl) ?_; clear H a; intro a H
        refine wpStill_nil (hK5 _ ?_)
        clear hK5 K5
        refine wp_ret ?_
        refine ret1 (fn := Try.f69) rfl H rfl ?_
        refine ⟨?_, (S.sel [] rfl rfl)⟩; rw [if_pos (by unfold chainOk; simp only [decide_eq_true_eq]; omega)]

set_option maxRecDepth 100000 in
set_option maxHeartbeats 1000000 in
theorem ref_Check (links pitch limit : Int) (l : List Gauge) (A : Option Addr) (cp : Nat) (w : World) (hl : InS w noF 4 A l.length (gcell l)) (hn : l.length ≤ 9223372036854775807) :
    Calls Try.prog 24 [.agg [.int .i64 links, .int .i64 pitch, .int .i64 limit].toArray, .slice A l.length cp].toArray w (Ret (fun v w' => v = .int .i64 (checkE (⟨links, pitch, limit⟩ : Chain) l) ∧ St w noF [] w')) := by
  refine enter Try.func24 rfl Try.ntmps24 rfl (fun a H => ?_)
  have S := St.start w
  refine seq_list (fun K1 hK1 => ?_)
  refine list_box H rfl S rfl rfl ?_; clear H a S; intro b2 _ a hb2 hbw2 S H
  refine list_does H rfl (does_assign rfl) ?_; clear H a; intro a H
  refine hK1 _ _ ?_
  clear hK1 K1
  cases hck : chainOk (⟨links, pitch, limit⟩ : Chain)
  · skip
    replace H := H.keep [1, 2] rfl
    refine seq_list (fun K2 hK2 => ?_)
    refine list_does H rfl (by first | exact does_loadIn agg_23 sz_23 rfl S hl (by omega) (by omega) | exact does_loadBox agg_23 sz_23 rfl S (i := 0) rfl rfl) ?_; clear H a; intro a H
    refine list_call H rfl rfl Try.func69 rfl rfl (ref_CheckChain links pitch limit _) ?_; clear H a
    rintro _ _ a ⟨rfl, S2⟩ H
    replace S := S.call S2; clear S2
    rw [hck] at H
    refine list_does H rfl (does_assign rfl) ?_; clear H a; intro a H
    refine hK2 _ _ ?_
    clear hK2 K2
    refine wp_seq_k (fun K3 hK3 => ?_)
    try have hck2 := hck
    try unfold chainOk at hck2
    try simp only [decide_eq_true_eq] at hck2
    replace H := H.keep [1, 2, 5] rfl
    refine seq_still (fun K4 hK4 => ?_)
    refine still_does H rfl (does_move rfl) ?_; clear H a; intro a H
    refine still_does H rfl (does_neq rfl rfl) ?_; clear H a; intro a H
    refine wpStill_nil (hK4 _ ?_)
    clear hK4 K4
    refine cond_ H rfl (fun hc1 => ?_) (fun hc1 => ?_)
    · try simp only [Bool.or_eq_true, Bool.and_eq_true, Bool.not_eq_true', Bool.or_eq_false_iff, Bool.and_eq_false_iff, Bool.not_eq_false', decide_eq_true_eq, decide_eq_false_iff_not, Int.not_lt, Int.not_le] at hc1
      replace H := H.keep [5] rfl
      refine seq_still (fun K5 hK5 => ?_)
      refine still_does H rfl (does_move rfl) ?_; clear H a; intro a H
      refine still_does H rfl (does_assign rfl) ?_; clear H a; intro a H
      refine wpStill_nil (hK5 _ ?_)
      clear hK5 K5
      refine wp_ret ?_
      refine ret1 (fn := Try.f24) rfl H rfl ?_
      refine ⟨?_, (S.sel [] rfl rfl)⟩; unfold checkE; rw [hck]; rfl
    · try simp only [Bool.or_eq_true, Bool.and_eq_true, Bool.not_eq_true', Bool.or_eq_false_iff, Bool.and_eq_false_iff, Bool.not_eq_false', decide_eq_true_eq, decide_eq_false_iff_not, Int.not_lt, Int.not_le] at hc1
      all_goals first | (exfalso; omega) | (simp at hc1)
  · skip
    replace H := H.keep [1, 2] rfl
    refine seq_list (fun K6 hK6 => ?_)
    refine list_does H rfl (by first | exact does_loadIn agg_23 sz_23 rfl S hl (by omega) (by omega) | exact does_loadBox agg_23 sz_23 rfl S (i := 0) rfl rfl) ?_; clear H a; intro a H
    refine list_call H rfl rfl Try.func69 rfl rfl (ref_CheckChain links pitch limit _) ?_; clear H a
    rintro _ _ a ⟨rfl, S2⟩ H
    replace S := S.call S2; clear S2
    rw [hck] at H
    refine list_does H rfl (does_assign rfl) ?_; clear H a; intro a H
    refine hK6 _ _ ?_
    clear hK6 K6
    refine wp_seq_k (fun K7 hK7 => ?_)
    try have hck2 := hck
    try unfold chainOk at hck2
    try simp only [decide_eq_true_eq] at hck2
    replace H := H.keep [1, 2, 5] rfl
    refine seq_still (fun K8 hK8 => ?_)
    refine still_does H rfl (does_move rfl) ?_; clear H a; intro a H
    refine still_does H rfl (does_neq rfl rfl) ?_; clear H a; intro a H
    refine wpStill_nil (hK8 _ ?_)
    clear hK8 K8
    refine cond_ H rfl (fun hc2 => ?_) (fun hc2 => ?_)
    · try simp only [Bool.or_eq_true, Bool.and_eq_true, Bool.not_eq_true', Bool.or_eq_false_iff, Bool.and_eq_false_iff, Bool.not_eq_false', decide_eq_true_eq, decide_eq_false_iff_not, Int.not_lt, Int.not_le] at hc2
      all_goals first | (exfalso; omega) | (simp at hc2)
    · try simp only [Bool.or_eq_true, Bool.and_eq_true, Bool.not_eq_true', Bool.or_eq_false_iff, Bool.and_eq_false_iff, Bool.not_eq_false', decide_eq_true_eq, decide_eq_false_iff_not, Int.not_lt, Int.not_le] at hc2
      refine wp_skip ?_
      refine hK7 _ _ ?_
      refine wp_seq_k (fun K9 hK9 => ?_)
      replace H := H.keep [1, 2] rfl
      refine seq_still (fun K10 hK10 => ?_)
      refine still_does H rfl (does_move rfl) ?_; clear H a; intro a H
      refine still_does H rfl (does_len sl_24 rfl) ?_; clear H a; intro a H
      refine still_does H rfl (does_gtr rfl rfl) ?_; clear H a; intro a H
      refine wpStill_nil (hK10 _ ?_)
      clear hK10 K10
      refine cond_ H rfl (fun hc3 => ?_) (fun hc3 => ?_)
      · try simp only [Bool.or_eq_true, Bool.and_eq_true, Bool.not_eq_true', Bool.or_eq_false_iff, Bool.and_eq_false_iff, Bool.not_eq_false', decide_eq_true_eq, decide_eq_false_iff_not, Int.not_lt, Int.not_le] at hc3
        replace H := H.keep [] rfl
        refine seq_still (fun K11 hK11 => ?_)
        refine still_does H rfl (does_assign rfl) ?_; clear H a; intro a H
        refine wpStill_nil (hK11 _ ?_)
        clear hK11 K11
        refine wp_ret ?_
        refine ret1 (fn := Try.f24) rfl H rfl ?_
        refine ⟨?_, (S.sel [] rfl rfl)⟩; unfold checkE; rw [if_pos hck, if_neg (by omega)]
      · try simp only [Bool.or_eq_true, Bool.and_eq_true, Bool.not_eq_true', Bool.or_eq_false_iff, Bool.and_eq_false_iff, Bool.not_eq_false', decide_eq_true_eq, decide_eq_false_iff_not, Int.not_lt, Int.not_le] at hc3
        refine wp_skip ?_
        refine hK9 _ _ ?_
        refine wp_seq_k (fun K12 hK12 => ?_)
        replace H := H.keep [1, 2] rfl
        refine seq_still (fun K13 hK13 => ?_)
        refine still_does H rfl (does_assign rfl) ?_; clear H a; intro a H
        refine wpStill_nil (hK13 _ ?_)
        clear hK13 K13
        refine wp_block ?_
        refine loop_st (X := Nat) (R0 := _) [1, 2] H rfl (fun k => [(6, .int .i64 (k : Int))]) (fun k => []) (fun g k => k ≤ l.length ∧ g + k = l.length ∧ (l.take k).all (gaugeOk links) = true) (l.length) 0 ?_ (S.sel [0] rfl rfl) (H.keep [6, 1, 2] rfl) ?_
        · exact ⟨by omega, by omega, by simp⟩
        · intro g1 x1 a w1 hp S H K14 hK14
          obtain ⟨k, rfl⟩ : ∃ y, y = x1 := ⟨_, rfl⟩
          skip
          refine wp_seq_k (fun K15 hK15 => ?_)
          replace H := H.keep [1, 2, 6] rfl
          refine seq_still (fun K16 hK16 => ?_)
          refine still_does H rfl (does_move rfl) ?_; clear H a; intro a H
          refine still_does H rfl (does_move rfl) ?_; clear H a; intro a H
          refine still_does H rfl (does_len sl_24 rfl) ?_; clear H a; intro a H
          refine still_does H rfl (does_lss rfl rfl) ?_; clear H a; intro a H
          refine wpStill_nil (hK16 _ ?_)
          clear hK16 K16
          refine cond_ H rfl (fun hc4 => ?_) (fun hc4 => ?_)
          · try simp only [Bool.or_eq_true, Bool.and_eq_true, Bool.not_eq_true', Bool.or_eq_false_iff, Bool.and_eq_false_iff, Bool.not_eq_false', decide_eq_true_eq, decide_eq_false_iff_not, Int.not_lt, Int.not_le] at hc4
            refine wp_skip ?_
            refine hK15 _ _ ?_
            refine wp_seq_k (fun K17 hK17 => ?_)
            refine wp_block ?_
            replace H := H.keep [1, 2, 6] rfl
            refine seq_list (fun K18 hK18 => ?_)
            refine list_does H rfl (does_move rfl) ?_; clear H a; intro a H
            refine list_does H rfl (does_move rfl) ?_; clear H a; intro a H
            refine list_does H rfl (by first | exact does_indexN sl_24 sz_48 rfl rfl (by first | exact hl.adr (by omega)) (by first | omega | omega) | exact does_index sl_24 sz_48 rfl rfl (by first | exact hl.adr (by omega)) (by omega) (by first | omega | omega)) ?_; clear H a; intro a H
            refine list_does H rfl (by first | exact does_loadIn agg_48 sz_48 rfl S hl (by omega) (by omega) | exact does_loadBox agg_48 sz_48 rfl S (i := 0) rfl rfl) ?_; clear H a; intro a H
            refine list_alloc H rfl S ze_48 ?_; clear H a S; intro b7 _ a hb7 hbw7 S H
            first | (refine list_store H S (i := 0) rfl rfl rfl rfl sz_48 rfl rfl ?_) | (refine list_store H S (i := 1) rfl rfl rfl rfl sz_48 rfl rfl ?_) | (refine list_store_own H S (i := 0) rfl rfl rfl (by omega) (by omega) sz_48 rfl ?_) | (refine list_store_own H S (i := 1) rfl rfl rfl (by omega) (by omega) sz_48 rfl ?_)
            clear H a S; intro _ a S H
            refine hK18 _ _ ?_
            clear hK18 K18
            replace H := H.keep [1, 2, 6, 7] rfl
            refine seq_still (fun K19 hK19 => ?_)
            refine still_does H rfl (by first | exact does_field_pt fo_48_0 rfl | exact does_field fo_48_0 rfl) ?_; clear H a; intro a H
            refine still_does H rfl (does_load one_3 rfl (by first | exact boxM.rd S (i := 0) rfl rfl | exact boxM.rd S (i := 1) rfl rfl)) ?_; clear H a; intro a H
            refine still_does H rfl (does_lss rfl rfl) ?_; clear H a; intro a H
            refine still_does H rfl (does_move rfl) ?_; clear H a; intro a H
            apply still_guard (i := 3) (g := 29) (t := 34) (b := false) 5 H rfl rfl (by kernel_rfl) (by kernel_rfl) rfl rfl
            case h1 =>
              intro hg4
              refine still_yes' H rfl rfl (by assumption) ?_
              refine still_does H rfl (by first | exact does_field_pt fo_48_0 rfl | exact does_field fo_48_0 rfl) ?_; intro a H
              refine still_yes' H rfl rfl (by assumption) ?_
              refine still_does H rfl (does_load one_3 rfl (by first | exact boxM.rd S (i := 0) rfl rfl | exact boxM.rd S (i := 1) rfl rfl)) ?_; intro a H
              refine still_yes' H rfl rfl (by assumption) ?_
              refine still_does H rfl (by first | exact does_field_pt fo_48_1 rfl | exact does_field fo_48_1 rfl) ?_; intro a H
              refine still_yes' H rfl rfl (by assumption) ?_
              refine still_does H rfl (does_load one_3 rfl (by first | exact boxM.rd S (i := 0) rfl rfl | exact boxM.rd S (i := 1) rfl rfl)) ?_; intro a H
              refine still_yes' H rfl rfl (by assumption) ?_
              refine still_does H rfl (does_geq rfl rfl) ?_; intro a H
              exact wpStill_nil (H.strip 5 rfl rfl)
            case k =>
              clear H a; intro a H
              refine still_does H rfl (by first | exact does_or rfl rfl rfl | exact does_pick rfl rfl rfl) ?_; clear H a; intro a H
              refine still_does H rfl (does_move rfl) ?_; clear H a; intro a H
              apply still_guard (i := 10) (g := 36) (t := 41) (b := false) 5 H rfl rfl (by kernel_rfl) (by kernel_rfl) rfl rfl
              case h1 =>
                intro hg11
                refine still_yes' H rfl rfl (by assumption) ?_
                refine still_does H rfl (by first | exact does_field_pt fo_48_1 rfl | exact does_field fo_48_1 rfl) ?_; intro a H
                refine still_yes' H rfl rfl (by assumption) ?_
                refine still_does H rfl (does_load one_3 rfl (by first | exact boxM.rd S (i := 0) rfl rfl | exact boxM.rd S (i := 1) rfl rfl)) ?_; intro a H
                refine still_yes' H rfl rfl (by assumption) ?_
                refine still_does H rfl (by first | exact does_field_pt fo_23_0 rfl | exact does_field fo_23_0 rfl) ?_; intro a H
                refine still_yes' H rfl rfl (by assumption) ?_
                refine still_does H rfl (does_load one_3 rfl (by first | exact boxM.rd S (i := 0) rfl rfl | exact boxM.rd S (i := 1) rfl rfl)) ?_; intro a H
                refine still_yes' H rfl rfl (by assumption) ?_
                refine still_does H rfl (does_gtr rfl rfl) ?_; intro a H
                exact wpStill_nil (H.strip 5 rfl rfl)
              case k =>
                clear H a; intro a H
                refine still_does H rfl (by first | exact does_or rfl rfl rfl | exact does_pick rfl rfl rfl) ?_; clear H a; intro a H
                refine still_does H rfl (does_move rfl) ?_; clear H a; intro a H
                apply still_guard (i := 17) (g := 43) (t := 51) (b := false) 8 H rfl rfl (by kernel_rfl) (by kernel_rfl) rfl rfl
                case h1 =>
                  intro hg18
                  refine still_yes' H rfl rfl (by assumption) ?_
                  refine still_does H rfl (by first | exact does_field_pt fo_48_2 rfl | exact does_field fo_48_2 rfl) ?_; intro a H
                  refine still_yes' H rfl rfl (by assumption) ?_
                  refine still_does H rfl (by first | exact does_field_pt fo_42_0 rfl | exact does_field fo_42_0 rfl) ?_; intro a H
                  refine still_yes' H rfl rfl (by assumption) ?_
                  refine still_does H rfl (does_load one_3 rfl (by first | exact boxM.rd S (i := 0) rfl rfl | exact boxM.rd S (i := 1) rfl rfl)) ?_; intro a H
                  refine still_yes' H rfl rfl (by assumption) ?_
                  refine still_does H rfl (by first | exact does_field_pt fo_48_2 rfl | exact does_field fo_48_2 rfl) ?_; intro a H
                  refine still_yes' H rfl rfl (by assumption) ?_
                  refine still_does H rfl (by first | exact does_field_pt fo_42_1 rfl | exact does_field fo_42_1 rfl) ?_; intro a H
                  refine still_yes' H rfl rfl (by assumption) ?_
                  refine still_does H rfl (does_load one_3 rfl (by first | exact boxM.rd S (i := 0) rfl rfl | exact boxM.rd S (i := 1) rfl rfl)) ?_; intro a H
                  refine still_yes' H rfl rfl (by assumption) ?_
                  refine still_call H rfl rfl Try.func67 rfl rfl (ref_from _ _ _ _) ?_; intro a H
                  refine still_yes' H rfl rfl (by assumption) ?_
                  refine still_does H rfl (does_not rfl) ?_; intro a H
                  exact wpStill_nil (H.strip 8 rfl rfl)
                case k =>
                  clear H a; intro a H
                  refine still_does H rfl (by first | exact does_or rfl rfl rfl | exact does_pick rfl rfl rfl) ?_; clear H a; intro a H
                  refine still_does H rfl (does_move rfl) ?_; clear H a; intro a H
                  apply still_guard (i := 27) (g := 53) (t := 57) (b := false) 4 H rfl rfl (by kernel_rfl) (by kernel_rfl) rfl rfl
                  case h1 =>
                    intro hg28
                    refine still_yes' H rfl rfl (by assumption) ?_
                    refine still_does H rfl (by first | exact does_field_pt fo_48_2 rfl | exact does_field fo_48_2 rfl) ?_; intro a H
                    refine still_yes' H rfl rfl (by assumption) ?_
                    refine still_does H rfl (by first | exact does_field_pt fo_42_1 rfl | exact does_field fo_42_1 rfl) ?_; intro a H
                    refine still_yes' H rfl rfl (by assumption) ?_
                    refine still_does H rfl (does_load one_3 rfl (by first | exact boxM.rd S (i := 0) rfl rfl | exact boxM.rd S (i := 1) rfl rfl)) ?_; intro a H
                    refine still_yes' H rfl rfl (by assumption) ?_
                    refine still_does H rfl (does_gtr rfl rfl) ?_; intro a H
                    exact wpStill_nil (H.strip 4 rfl rfl)
                  case k =>
                    clear H a; intro a H
                    refine still_does H rfl (by first | exact does_or rfl rfl rfl | exact does_pick rfl rfl rfl) ?_; clear H a; intro a H
                    refine wpStill_nil (hK19 _ ?_)
                    clear hK19 K19
                    refine cond_ H rfl (fun hc5 => ?_) (fun hc5 => ?_)
                    · try simp only [Bool.or_eq_true, Bool.and_eq_true, Bool.not_eq_true', Bool.or_eq_false_iff, Bool.and_eq_false_iff, Bool.not_eq_false', decide_eq_true_eq, decide_eq_false_iff_not, Int.not_lt, Int.not_le] at hc5
                      replace H := H.keep [] rfl
                      refine seq_still (fun K20 hK20 => ?_)
                      refine still_does H rfl (does_assign rfl) ?_; clear H a; intro a H
                      refine wpStill_nil (hK20 _ ?_)
                      clear hK20 K20
                      refine wp_ret ?_
                      refine ret1 (fn := Try.f24) rfl H rfl ?_
                      refine ⟨?_, (S.sel [] rfl rfl)⟩; unfold checkE; rw [if_pos hck, if_pos (by omega), all_false (k := k) (d := Gauge.zero) (by omega) (by unfold gaugeOk; simp only [decide_eq_false_iff_not]; omega)]; rfl
                    · try simp only [Bool.or_eq_true, Bool.and_eq_true, Bool.not_eq_true', Bool.or_eq_false_iff, Bool.and_eq_false_iff, Bool.not_eq_false', decide_eq_true_eq, decide_eq_false_iff_not, Int.not_lt, Int.not_le] at hc5
                      refine wp_skip ?_
                      refine hK17 _ _ ?_
                      replace H := H.keep [1, 2, 6] rfl
                      refine one_still ?_
                      refine still_does H rfl (does_move rfl) ?_; clear H a; intro a H
                      refine still_does H rfl (does_add rfl rfl (by unfold i64ok; omega)) ?_; clear H a; intro a H
                      refine still_does H rfl (does_assign rfl) ?_; clear H a; intro a H
                      refine wpStill_nil ?_
                      exact hK14 (g1 - 1) (k + 1) a _ (by omega) (⟨by omega, by omega, all_take (d := Gauge.zero) (by omega) hp.2.2 (by unfold gaugeOk; simp only [decide_eq_true_eq]; omega)⟩) (S.sel [1] rfl rfl) (H.keep [6, 1, 2] rfl)
          · try simp only [Bool.or_eq_true, Bool.and_eq_true, Bool.not_eq_true', Bool.or_eq_false_iff, Bool.and_eq_false_iff, Bool.not_eq_false', decide_eq_true_eq, decide_eq_false_iff_not, Int.not_lt, Int.not_le] at hc4
            refine wp_exit ?_
            refine hK12 _ _ ?_
            replace H := H.keep [] rfl
            refine seq_still (fun K22 hK22 => ?_)
            refine still_does H rfl (does_assign rfl) ?_; clear H a; intro a H
            refine wpStill_nil (hK22 _ ?_)
            clear hK22 K22
            refine wp_ret ?_
            refine ret1 (fn := Try.f24) rfl H rfl ?_
            refine ⟨?_, (S.sel [] rfl rfl)⟩; unfold checkE; rw [if_pos hck, if_pos (by omega)]; rw [List.take_of_length_le (by omega)] at hp; rw [hp.2.2, if_pos rfl]

set_option maxRecDepth 100000 in
set_option maxHeartbeats 1000000 in
theorem net_run (n cw : Nat) (W : Option Addr) (rb rc : Nat → Nat) (M : IM) (i j : Nat) (w : World) (F : Nat → Prop) (S : St w F [ownM 29 1 W n cw (fun i _ => rowv rb rc n i), rowsM 3 n n rb rc (M)] w) (hin : i < n) (hjn : j < n) (hM : bdd n 4611686018427387904 M) :
    Calls Try.prog 66 [.slice W n cw, .int .i64 (i : Int), .int .i64 (j : Int)].toArray w (Ret (fun v w' => v = .agg [.int .i64 (-(M j i)), .int .i64 (M i j)].toArray ∧ St w F [ownM 29 1 W n cw (fun i _ => rowv rb rc n i), rowsM 3 n n rb rc (M)] w')) := by
  have hb1 := hM j i hjn hin; have hb2 := hM i j hin hjn
  refine enter Try.func66 rfl Try.ntmps66 rfl (fun a H => ?_)
  skip
  refine seq_list (fun K1 hK1 => ?_)
  refine list_alloc H rfl S ze_42 ?_; clear H a S; intro b6 _ a hb6 hbw6 S H
  refine hK1 _ _ ?_
  clear hK1 K1
  replace H := H.keep [0, 1, 2, 6] rfl
  refine seq_tail 16 (by kernel_rfl) (by kernel_rfl) (fun K2 hK2 => ?_)
  replace S := S.drew
  refine still_does H rfl (does_move rfl) ?_; clear H a; intro a H
  refine still_does H rfl (does_move rfl) ?_; clear H a; intro a H
  refine still_does H rfl (by first | exact does_indexN sl_101 sz_29 rfl rfl (by first | exact ownM.adr S (i := 1) rfl (by omega) | exact rfl) (by first | omega | omega) | exact does_index sl_101 sz_29 rfl rfl (by first | exact ownM.adr S (i := 1) rfl (by omega) | exact rfl) (by omega) (by first | omega | omega)) ?_; clear H a; intro a H
  refine still_does H rfl (does_load one_29 rfl (by first | exact ownM.rd S (i := 1) rfl (by omega) (by omega) | exact rowsM.rd S (i := 2) rfl (by omega) (by omega) | exact boxM.rd S (i := 0) rfl rfl | exact boxM.rd S (i := 1) rfl rfl | exact boxM.rd S (i := 2) rfl rfl)) ?_; clear H a; intro a H
  refine still_does H rfl (does_move rfl) ?_; clear H a; intro a H
  refine still_does H rfl (by first | exact does_indexN sl_29 sz_3 rfl rfl (by first | exact ownM.adr S (i := 1) rfl (by omega) | exact rfl) (by first | omega | omega) | exact does_index sl_29 sz_3 rfl rfl (by first | exact ownM.adr S (i := 1) rfl (by omega) | exact rfl) (by omega) (by first | omega | omega)) ?_; clear H a; intro a H
  refine still_does H rfl (does_load one_3 rfl (by first | exact ownM.rd S (i := 1) rfl (by omega) (by omega) | exact rowsM.rd S (i := 2) rfl (by omega) (by omega) | exact boxM.rd S (i := 0) rfl rfl | exact boxM.rd S (i := 1) rfl rfl | exact boxM.rd S (i := 2) rfl rfl)) ?_; clear H a; intro a H
  refine still_does H rfl (does_neg rfl (by unfold i64ok; omega)) ?_; clear H a; intro a H
  refine still_does H rfl (does_move rfl) ?_; clear H a; intro a H
  refine still_does H rfl (does_move rfl) ?_; clear H a; intro a H
  refine still_does H rfl (by first | exact does_indexN sl_101 sz_29 rfl rfl (by first | exact ownM.adr S (i := 1) rfl (by omega) | exact rfl) (by first | omega | omega) | exact does_index sl_101 sz_29 rfl rfl (by first | exact ownM.adr S (i := 1) rfl (by omega) | exact rfl) (by omega) (by first | omega | omega)) ?_; clear H a; intro a H
  refine still_does H rfl (does_load one_29 rfl (by first | exact ownM.rd S (i := 1) rfl (by omega) (by omega) | exact rowsM.rd S (i := 2) rfl (by omega) (by omega) | exact boxM.rd S (i := 0) rfl rfl | exact boxM.rd S (i := 1) rfl rfl | exact boxM.rd S (i := 2) rfl rfl)) ?_; clear H a; intro a H
  refine still_does H rfl (does_move rfl) ?_; clear H a; intro a H
  refine still_does H rfl (by first | exact does_indexN sl_29 sz_3 rfl rfl (by first | exact ownM.adr S (i := 1) rfl (by omega) | exact rfl) (by first | omega | omega) | exact does_index sl_29 sz_3 rfl rfl (by first | exact ownM.adr S (i := 1) rfl (by omega) | exact rfl) (by omega) (by first | omega | omega)) ?_; clear H a; intro a H
  refine still_does H rfl (does_load one_3 rfl (by first | exact ownM.rd S (i := 1) rfl (by omega) (by omega) | exact rowsM.rd S (i := 2) rfl (by omega) (by omega) | exact boxM.rd S (i := 0) rfl rfl | exact boxM.rd S (i := 1) rfl rfl | exact boxM.rd S (i := 2) rfl rfl)) ?_; clear H a; intro a H
  refine still_does H rfl (does_build bt_42 rfl rfl) ?_; clear H a; intro a H
  refine wpStill_nil ?_
  first | (refine list_store H S (i := 0) rfl rfl rfl rfl sz_42 rfl rfl ?_) | (refine list_store H S (i := 1) rfl rfl rfl rfl sz_42 rfl rfl ?_) | (refine list_store H S (i := 2) rfl rfl rfl rfl sz_42 rfl rfl ?_) | (refine list_store_own H S (i := 0) rfl rfl rfl (by omega) (by omega) sz_42 rfl ?_) | (refine list_store_own H S (i := 1) rfl rfl rfl (by omega) (by omega) sz_42 rfl ?_) | (refine list_store_own H S (i := 2) rfl rfl rfl (by omega) (by omega) sz_42 rfl ?_)
  clear H a S; intro _ a S H
  refine hK2 _ _ ?_
  clear hK2 K2
  refine wp_ret ?_
  refine retA (fn := Try.f66) rfl H rfl agg_42 (by exact sz_42) (boxAgg S (i := 0) rfl) ?_
  exact ⟨rfl, (S.sel [1, 2] rfl rfl)⟩

set_option maxRecDepth 100000 in
set_option maxHeartbeats 1000000 in
theorem ref_CopyGauges (l : List Gauge) (A : Option Addr) (cp : Nat) (w : World) (hl : InS w noF 4 A l.length (gcell l)) (hn : l.length ≤ 1000000000000) :
    Calls Try.prog 20 [.slice A l.length cp].toArray w (Ret (fun v w' => ∃ A' c', v = .slice A' l.length c' ∧ St w noF [ownM 48 4 A' l.length c' (gcell l)] w')) := by
  refine enter Try.func20 rfl Try.ntmps20 rfl (fun a H => ?_)
  have S := St.start w
  refine seq_still (fun K1 hK1 => ?_)
  refine still_does H rfl (does_assign rfl) ?_; clear H a; intro a H
  refine wpStill_nil (hK1 _ ?_)
  clear hK1 K1
  replace H := H.keep [0] rfl
  refine seq_list (fun K2 hK2 => ?_)
  refine list_build0 H rfl S sl_24 sz_48 (gcell l) ?_; clear H a S; intro A1 _ a S H
  refine list_does H rfl (does_move rfl) ?_; clear H a; intro a H
  refine list_append H rfl S sl_24 sz_48 ze_48 by_48 rfl rfl (i := 0) rfl rfl rfl (hl.now S) (gcell_one l) (by omega) (by omega) ?_; clear H a S; intro A2 c2 _ a S H
  rw [Nat.zero_add] at H
  replace S := S.recell (i := 0) (cell' := gcell l) (by rw [Nat.zero_add]; rfl) (fun k j hk hj => by unfold capp; rw [if_neg (by omega)]; rfl)
  refine list_does H rfl (does_assign rfl) ?_; clear H a; intro a H
  refine hK2 _ _ ?_
  clear hK2 K2
  refine wp_ret ?_
  refine ret1 (fn := Try.f20) rfl H rfl ?_
  exact ⟨_, _, rfl, (S.sel [0] rfl rfl)⟩

end Go.Proofs.Ytlejjfhgfajoiaa
