/- ChS. Printed by gen.py. -/
import Derived.Test.YtlejjfhgfajoiaaChR
namespace Go.Proofs.Ytlejjfhgfajoiaa
open Go.RowKit
set_option linter.unusedVariables false
set_option linter.unusedSimpArgs false


set_option maxRecDepth 100000 in
set_option maxHeartbeats 1000000 in
theorem law_ChainWitness (links pitch limit : Int) (l : List Gauge) (A : Option Addr) (cp : Nat) (sf st sl : Int) (w : World) (hl : InS w noF 4 A l.length (gcell l)) (hn : l.length ≤ 9223372036854775807) :
    Calls Try.prog 3 [.agg [.int .i64 links, .int .i64 pitch, .int .i64 limit].toArray, .slice A l.length cp, .agg [.int .i64 sf, .int .i64 st, .int .i64 sl].toArray].toArray w (Ret (fun v w' => v = .bool true ∧ St w noF [] w')) := by
  refine enter Try.func3 rfl Try.ntmps3 rfl (fun a H => ?_)
  have S := St.start w
  refine seq_list (fun K1 hK1 => ?_)
  refine list_box H rfl S rfl rfl ?_; clear H a S; intro b3 _ a hb3 hbw3 S H
  refine list_box H rfl S rfl rfl ?_; clear H a S; intro b5 _ a hb5 hbw5 S H
  refine list_does H rfl (does_assign rfl) ?_; clear H a; intro a H
  refine hK1 _ _ ?_
  clear hK1 K1
  refine wp_seq_k (fun K2 hK2 => ?_)
  replace H := H.keep [1, 3, 5] rfl
  refine seq_still (fun K3 hK3 => ?_)
  refine still_does H rfl (does_move rfl) ?_; clear H a; intro a H
  refine still_call H rfl rfl Try.func17 rfl rfl (law_Far A l.length cp _) ?_; clear H a; intro a H
  refine still_does H rfl (does_move rfl) ?_; clear H a; intro a H
  apply still_guard (i := 2) (g := 13) (t := 21) (b := false) 8 H rfl rfl (by kernel_rfl) (by kernel_rfl) rfl rfl
  case h1 =>
    intro hg3
    refine still_yes' H rfl rfl (by assumption) ?_
    refine still_does H rfl (by first | exact does_field_pt fo_23_0 rfl | exact does_field fo_23_0 rfl) ?_; intro a H
    refine still_yes' H rfl rfl (by assumption) ?_
    refine still_does H rfl (does_load one_3 rfl (by first | exact boxM.rd S (i := 0) rfl rfl | exact boxM.rd S (i := 1) rfl rfl)) ?_; intro a H
    refine still_yes' H rfl rfl (by assumption) ?_
    refine still_does H rfl (does_gtr rfl rfl) ?_; intro a H
    refine still_yes' H rfl rfl (by assumption) ?_
    refine still_does H rfl (does_move rfl) ?_; intro a H
    apply still_guard (i := 6) (g := 17) (t := 20) (b := true) 3 H rfl rfl (by kernel_rfl) (by kernel_rfl) rfl rfl
    case h1 =>
      intro hg7
      refine still_yes' H rfl rfl (by assumption) ?_
      refine still_does H rfl (by first | exact does_field_pt fo_23_0 rfl | exact does_field fo_23_0 rfl) ?_; intro a H
      refine still_yes' H rfl rfl (by assumption) ?_
      refine still_does H rfl (does_load one_3 rfl (by first | exact boxM.rd S (i := 0) rfl rfl | exact boxM.rd S (i := 1) rfl rfl)) ?_; intro a H
      refine still_yes' H rfl rfl (by assumption) ?_
      refine still_does H rfl (does_leq rfl rfl) ?_; intro a H
      exact wpStill_nil (H.strip 3 rfl rfl)
    case k =>
      intro a H
      refine still_yes' H rfl rfl (by assumption) ?_
      refine still_does H rfl (by first | exact does_and rfl rfl rfl | exact does_pick rfl rfl rfl) ?_; intro a H
      exact wpStill_nil (H.strip 6 rfl rfl)
  case k =>
    clear H a; intro a H
    refine still_does H rfl (by first | exact does_or rfl rfl rfl | exact does_pick rfl rfl rfl) ?_; clear H a; intro a H
    refine wpStill_nil (hK3 _ ?_)
    clear hK3 K3
    refine cond_ H rfl (fun hc1 => ?_) (fun hc1 => ?_)
    · try simp only [Bool.or_eq_true, Bool.and_eq_true, Bool.not_eq_true', Bool.or_eq_false_iff, Bool.and_eq_false_iff, Bool.not_eq_false', decide_eq_true_eq, decide_eq_false_iff_not, Int.not_lt, Int.not_le] at hc1
      replace H := H.keep [] rfl
      refine seq_list (fun K4 hK4 => ?_)
      refine list_call H rfl rfl Try.func18 rfl rfl (law_works _) ?_; clear H a
      rintro _ _ a ⟨rfl, S2⟩ H
      replace S := S.call S2; clear S2
      refine list_does H rfl (does_assign rfl) ?_; clear H a; intro a H
      refine hK4 _ _ ?_
      clear hK4 K4
      refine wp_ret ?_
      refine ret1 (fn := Try.f3) rfl H rfl ?_
      exact ⟨rfl, (S.sel [] rfl rfl)⟩
    · try simp only [Bool.or_eq_true, Bool.and_eq_true, Bool.not_eq_true', Bool.or_eq_false_iff, Bool.and_eq_false_iff, Bool.not_eq_false', decide_eq_true_eq, decide_eq_false_iff_not, Int.not_lt, Int.not_le] at hc1
      refine wp_skip ?_
      refine hK2 _ _ ?_
      rcases hW : witO (⟨links, pitch, limit⟩ : Chain) l sf st sl with e | f
      · skip
        skip
        replace H := H.keep [1, 3, 5] rfl
        replace S := S.drew
        refine seq_wq [(0, true), (1, true), (3, true), (4, true), (5, true), (6, true), (7, true), (8, true), (2, false), (9, false), (10, true), (11, true), (12, true), (13, true), (14, true)] (by kernel_rfl) (by kernel_rfl) (S.sel [0, 1] rfl rfl) (fun K5 hK5 => ?_)
        refine wq_does H rfl rfl (fun _ S => by first | exact does_loadBox agg_23 sz_23 rfl S (i := 0) rfl rfl | exact does_loadBox agg_23 sz_23 rfl S (i := 1) rfl rfl) ?_; clear H a; intro a H
        refine wq_does H rfl rfl (fun _ S => does_move rfl) ?_; clear H a; intro a H
        refine wq_does H rfl rfl (fun _ S => by first | exact does_field_pt fo_26_0 rfl | exact does_field fo_26_0 rfl) ?_; clear H a; intro a H
        refine wq_does H rfl rfl (fun _ S => does_load one_3 rfl (by first | exact boxM.rd S (i := 0) rfl rfl | exact boxM.rd S (i := 1) rfl rfl)) ?_; clear H a; intro a H
        refine wq_does H rfl rfl (fun _ S => by first | exact does_field_pt fo_26_1 rfl | exact does_field fo_26_1 rfl) ?_; clear H a; intro a H
        refine wq_does H rfl rfl (fun _ S => does_load one_3 rfl (by first | exact boxM.rd S (i := 0) rfl rfl | exact boxM.rd S (i := 1) rfl rfl)) ?_; clear H a; intro a H
        refine wq_does H rfl rfl (fun _ S => by first | exact does_field_pt fo_26_2 rfl | exact does_field fo_26_2 rfl) ?_; clear H a; intro a H
        refine wq_does H rfl rfl (fun _ S => does_load one_3 rfl (by first | exact boxM.rd S (i := 0) rfl rfl | exact boxM.rd S (i := 1) rfl rfl)) ?_; clear H a; intro a H
        refine wq_eff rfl ?_
        refine list_call H rfl rfl Try.func20 rfl rfl (ref_CopyGauges l A cp _ (hl.now S) (by omega)) ?_; clear H a
        rintro _ _ a ⟨A2, c2, rfl, S2⟩ H
        replace S := S.call S2; clear S2
        refine wpList_nil (And.intro (S.sel [1, 2] rfl rfl) ?_)
        refine wq_eff rfl ?_
        refine list_call H rfl rfl Try.func19 rfl rfl (ret_imp (chain_Witness links pitch limit l A2 c2 sf st sl _ (ownM.inS S (i := 0) rfl) hn) (fun _ _ h => wit_err hW h)) ?_; clear H a
        rintro _ _ a ⟨rfl, S2⟩ H
        replace S := S.call S2; clear S2
        refine wpList_nil (And.intro (S.sel [1, 2] rfl rfl) ?_)
        refine wq_does H rfl rfl (fun _ S => does_move rfl) ?_; clear H a; intro a H
        refine wq_does H rfl rfl (fun _ S => does_extract rfl rfl) ?_; clear H a; intro a H
        refine wq_does H rfl rfl (fun _ S => does_extract rfl rfl) ?_; clear H a; intro a H
        refine wq_does H rfl rfl (fun _ S => does_assign rfl) ?_; clear H a; intro a H
        refine wq_does H rfl rfl (fun _ S => does_assign rfl) ?_; clear H a; intro a H
        refine wq_nil ?_
        refine hK5 _ _ ?_
        clear hK5 K5
        replace H := H.keep [1, 3, 5, 7, 8] rfl
        refine seq_list (fun K6 hK6 => ?_)
        refine list_does H rfl (by first | exact does_loadBox agg_23 sz_23 rfl S (i := 0) rfl rfl | exact does_loadBox agg_23 sz_23 rfl S (i := 1) rfl rfl | exact does_loadBox agg_23 sz_23 rfl S (i := 2) rfl rfl) ?_; clear H a; intro a H
        refine list_does H rfl (does_move rfl) ?_; clear H a; intro a H
        refine list_does H rfl (by first | exact does_field_pt fo_26_0 rfl | exact does_field fo_26_0 rfl) ?_; clear H a; intro a H
        refine list_does H rfl (does_load one_3 rfl (by first | exact boxM.rd S (i := 0) rfl rfl | exact boxM.rd S (i := 1) rfl rfl | exact boxM.rd S (i := 2) rfl rfl)) ?_; clear H a; intro a H
        refine list_does H rfl (by first | exact does_field_pt fo_26_1 rfl | exact does_field fo_26_1 rfl) ?_; clear H a; intro a H
        refine list_does H rfl (does_load one_3 rfl (by first | exact boxM.rd S (i := 0) rfl rfl | exact boxM.rd S (i := 1) rfl rfl | exact boxM.rd S (i := 2) rfl rfl)) ?_; clear H a; intro a H
        refine list_does H rfl (by first | exact does_field_pt fo_26_2 rfl | exact does_field fo_26_2 rfl) ?_; clear H a; intro a H
        refine list_does H rfl (does_load one_3 rfl (by first | exact boxM.rd S (i := 0) rfl rfl | exact boxM.rd S (i := 1) rfl rfl | exact boxM.rd S (i := 2) rfl rfl)) ?_; clear H a; intro a H
        refine list_call H rfl rfl Try.func21 rfl rfl (ret_imp (ref_Witness links pitch limit l A cp sf st sl _ (hl.now S) hn) (fun _ _ h => wit_err hW h)) ?_; clear H a
        rintro _ _ a ⟨rfl, S2⟩ H
        replace S := S.call S2; clear S2
        refine list_does H rfl (does_move rfl) ?_; clear H a; intro a H
        refine list_does H rfl (does_extract rfl rfl) ?_; clear H a; intro a H
        refine list_does H rfl (does_extract rfl rfl) ?_; clear H a; intro a H
        refine list_does H rfl (does_assign rfl) ?_; clear H a; intro a H
        refine list_does H rfl (does_assign rfl) ?_; clear H a; intro a H
        refine hK6 _ _ ?_
        clear hK6 K6
        replace H := H.keep [7, 8, 9, 10] rfl
        refine seq_list (fun K7 hK7 => ?_)
        refine list_does H rfl (does_move rfl) ?_; clear H a; intro a H
        refine list_does H rfl (does_move rfl) ?_; clear H a; intro a H
        refine list_call H rfl rfl Try.func22 rfl rfl (ret_imp (law_sameInts none none 0 0 0 0 (fun _ => 0) (fun _ => 0) _ InS.nil InS.nil (by decide) (by decide)) (fun _ _ h => (⟨h.1.trans (congrArg Value.bool (sameB_self 0 _ _ (fun _ h => absurd h (Nat.not_lt_zero _)))), h.2⟩ : _ ∧ _))) ?_; clear H a
        rintro _ _ a ⟨rfl, S2⟩ H
        replace S := S.call S2; clear S2
        refine list_does H rfl (does_move rfl) ?_; clear H a; intro a H
        refine list_yes H rfl rfl ?_
        refine list_does H rfl (does_move rfl) ?_; clear H a; intro a H
        refine list_yes H rfl rfl ?_
        refine list_does H rfl (does_move rfl) ?_; clear H a; intro a H
        refine list_yes H rfl rfl ?_
        refine list_does H rfl (does_eql_same rfl rfl rfl) ?_; clear H a; intro a H
        refine list_does H rfl (by first | exact does_and rfl rfl rfl | exact does_pick rfl rfl rfl) ?_; clear H a; intro a H
        refine list_does H rfl (does_move rfl) ?_; clear H a; intro a H
        refine list_yes H rfl rfl ?_
        refine list_call H rfl rfl Try.func18 rfl rfl (law_works _) ?_; clear H a
        rintro _ _ a ⟨rfl, S2⟩ H
        replace S := S.call S2; clear S2
        refine list_does H rfl (by first | exact does_and rfl rfl rfl | exact does_pick rfl rfl rfl) ?_; clear H a; intro a H
        refine list_does H rfl (does_assign rfl) ?_; clear H a; intro a H
        refine hK7 _ _ ?_
        clear hK7 K7
        refine wp_ret ?_
        refine ret1 (fn := Try.f3) rfl H rfl ?_
        exact ⟨rfl, (S.sel [] rfl rfl)⟩
      · skip
        have hlk : links.toNat ≤ 1000000 := by
          have h9 : ¬ (24 < links) := by
            intro h
            unfold witO at hW
            have : wholeO (⟨links, pitch, limit⟩ : Chain) l (isRunB (⟨links, pitch, limit⟩ : Chain) sf st) = .error (checkE (⟨links, pitch, limit⟩ : Chain) l) := by unfold wholeO; rw [if_pos (by unfold checkE; rw [if_neg (by unfold chainOk; simp only [decide_eq_true_eq]; omega)]; decide)]
            rw [this] at hW; cases hW
          omega
        replace H := H.keep [1, 3, 5] rfl
        replace S := S.drew
        refine seq_wq [(0, true), (1, true), (3, true), (4, true), (5, true), (6, true), (7, true), (8, true), (2, false), (9, false), (10, true), (11, true), (12, true), (13, true), (14, true)] (by kernel_rfl) (by kernel_rfl) (S.sel [0, 1] rfl rfl) (fun K8 hK8 => ?_)
        refine wq_does H rfl rfl (fun _ S => by first | exact does_loadBox agg_23 sz_23 rfl S (i := 0) rfl rfl | exact does_loadBox agg_23 sz_23 rfl S (i := 1) rfl rfl) ?_; clear H a; intro a H
        refine wq_does H rfl rfl (fun _ S => does_move rfl) ?_; clear H a; intro a H
        refine wq_does H rfl rfl (fun _ S => by first | exact does_field_pt fo_26_0 rfl | exact does_field fo_26_0 rfl) ?_; clear H a; intro a H
        refine wq_does H rfl rfl (fun _ S => does_load one_3 rfl (by first | exact boxM.rd S (i := 0) rfl rfl | exact boxM.rd S (i := 1) rfl rfl)) ?_; clear H a; intro a H
        refine wq_does H rfl rfl (fun _ S => by first | exact does_field_pt fo_26_1 rfl | exact does_field fo_26_1 rfl) ?_; clear H a; intro a H
        refine wq_does H rfl rfl (fun _ S => does_load one_3 rfl (by first | exact boxM.rd S (i := 0) rfl rfl | exact boxM.rd S (i := 1) rfl rfl)) ?_; clear H a; intro a H
        refine wq_does H rfl rfl (fun _ S => by first | exact does_field_pt fo_26_2 rfl | exact does_field fo_26_2 rfl) ?_; clear H a; intro a H
        refine wq_does H rfl rfl (fun _ S => does_load one_3 rfl (by first | exact boxM.rd S (i := 0) rfl rfl | exact boxM.rd S (i := 1) rfl rfl)) ?_; clear H a; intro a H
        refine wq_eff rfl ?_
        refine list_call H rfl rfl Try.func20 rfl rfl (ref_CopyGauges l A cp _ (hl.now S) (by omega)) ?_; clear H a
        rintro _ _ a ⟨A2, c2, rfl, S2⟩ H
        replace S := S.call S2; clear S2
        refine wpList_nil (And.intro (S.sel [1, 2] rfl rfl) ?_)
        refine wq_eff rfl ?_
        refine list_call H rfl rfl Try.func19 rfl rfl (ret_imp (chain_Witness links pitch limit l A2 c2 sf st sl _ (ownM.inS S (i := 0) rfl) hn) (fun _ _ h => wit_ok hW h)) ?_; clear H a
        rintro _ _ a ⟨A4, c4, rfl, S2⟩ H
        replace S := S.call S2; clear S2
        refine wpList_nil (And.intro (S.sel [2, 3] rfl rfl) ?_)
        refine wq_does H rfl rfl (fun _ S => does_move rfl) ?_; clear H a; intro a H
        refine wq_does H rfl rfl (fun _ S => does_extract rfl rfl) ?_; clear H a; intro a H
        refine wq_does H rfl rfl (fun _ S => does_extract rfl rfl) ?_; clear H a; intro a H
        refine wq_does H rfl rfl (fun _ S => does_assign rfl) ?_; clear H a; intro a H
        refine wq_does H rfl rfl (fun _ S => does_assign rfl) ?_; clear H a; intro a H
        refine wq_nil ?_
        refine hK8 _ _ ?_
        clear hK8 K8
        replace H := H.keep [1, 3, 5, 7, 8] rfl
        refine seq_list (fun K9 hK9 => ?_)
        refine list_does H rfl (by first | exact does_loadBox agg_23 sz_23 rfl S (i := 0) rfl rfl | exact does_loadBox agg_23 sz_23 rfl S (i := 1) rfl rfl | exact does_loadBox agg_23 sz_23 rfl S (i := 2) rfl rfl | exact does_loadBox agg_23 sz_23 rfl S (i := 3) rfl rfl) ?_; clear H a; intro a H
        refine list_does H rfl (does_move rfl) ?_; clear H a; intro a H
        refine list_does H rfl (by first | exact does_field_pt fo_26_0 rfl | exact does_field fo_26_0 rfl) ?_; clear H a; intro a H
        refine list_does H rfl (does_load one_3 rfl (by first | exact boxM.rd S (i := 0) rfl rfl | exact boxM.rd S (i := 1) rfl rfl | exact boxM.rd S (i := 2) rfl rfl | exact boxM.rd S (i := 3) rfl rfl)) ?_; clear H a; intro a H
        refine list_does H rfl (by first | exact does_field_pt fo_26_1 rfl | exact does_field fo_26_1 rfl) ?_; clear H a; intro a H
        refine list_does H rfl (does_load one_3 rfl (by first | exact boxM.rd S (i := 0) rfl rfl | exact boxM.rd S (i := 1) rfl rfl | exact boxM.rd S (i := 2) rfl rfl | exact boxM.rd S (i := 3) rfl rfl)) ?_; clear H a; intro a H
        refine list_does H rfl (by first | exact does_field_pt fo_26_2 rfl | exact does_field fo_26_2 rfl) ?_; clear H a; intro a H
        refine list_does H rfl (does_load one_3 rfl (by first | exact boxM.rd S (i := 0) rfl rfl | exact boxM.rd S (i := 1) rfl rfl | exact boxM.rd S (i := 2) rfl rfl | exact boxM.rd S (i := 3) rfl rfl)) ?_; clear H a; intro a H
        refine list_call H rfl rfl Try.func21 rfl rfl (ret_imp (ref_Witness links pitch limit l A cp sf st sl _ (hl.now S) hn) (fun _ _ h => wit_ok hW h)) ?_; clear H a
        rintro _ _ a ⟨A5, c5, rfl, S2⟩ H
        replace S := S.call S2; clear S2
        refine list_does H rfl (does_move rfl) ?_; clear H a; intro a H
        refine list_does H rfl (does_extract rfl rfl) ?_; clear H a; intro a H
        refine list_does H rfl (does_extract rfl rfl) ?_; clear H a; intro a H
        refine list_does H rfl (does_assign rfl) ?_; clear H a; intro a H
        refine list_does H rfl (does_assign rfl) ?_; clear H a; intro a H
        refine hK9 _ _ ?_
        clear hK9 K9
        replace H := H.keep [7, 8, 9, 10] rfl
        refine seq_list (fun K10 hK10 => ?_)
        refine list_does H rfl (does_move rfl) ?_; clear H a; intro a H
        refine list_does H rfl (does_move rfl) ?_; clear H a; intro a H
        refine list_call H rfl rfl Try.func22 rfl rfl (ret_imp (law_sameInts A4 A5 _ _ c4 c5 f f _ (ownM.inS S (i := 1) rfl) (ownM.inS S (i := 0) rfl) hlk hlk) (fun _ _ h => (⟨h.1.trans (congrArg Value.bool (sameB_self _ _ _ (fun _ _ => rfl))), h.2⟩ : _ ∧ _))) ?_; clear H a
        rintro _ _ a ⟨rfl, S2⟩ H
        replace S := S.call S2; clear S2
        refine list_does H rfl (does_move rfl) ?_; clear H a; intro a H
        refine list_yes H rfl rfl ?_
        refine list_does H rfl (does_move rfl) ?_; clear H a; intro a H
        refine list_yes H rfl rfl ?_
        refine list_does H rfl (does_move rfl) ?_; clear H a; intro a H
        refine list_yes H rfl rfl ?_
        refine list_does H rfl (does_eql_same rfl rfl rfl) ?_; clear H a; intro a H
        refine list_does H rfl (by first | exact does_and rfl rfl rfl | exact does_pick rfl rfl rfl) ?_; clear H a; intro a H
        refine list_does H rfl (does_move rfl) ?_; clear H a; intro a H
        refine list_yes H rfl rfl ?_
        refine list_call H rfl rfl Try.func18 rfl rfl (law_works _) ?_; clear H a
        rintro _ _ a ⟨rfl, S2⟩ H
        replace S := S.call S2; clear S2
        refine list_does H rfl (by first | exact does_and rfl rfl rfl | exact does_pick rfl rfl rfl) ?_; clear H a; intro a H
        refine list_does H rfl (does_assign rfl) ?_; clear H a; intro a H
        refine hK10 _ _ ?_
        clear hK10 K10
        refine wp_ret ?_
        refine ret1 (fn := Try.f3) rfl H rfl ?_
        exact ⟨rfl, (S.sel [] rfl rfl)⟩

end Go.Proofs.Ytlejjfhgfajoiaa
