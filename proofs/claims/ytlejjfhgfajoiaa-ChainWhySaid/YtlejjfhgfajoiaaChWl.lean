/- ChWl. Printed by gen.py. -/
import Derived.Test.YtlejjfhgfajoiaaChWr
namespace Go.Proofs.Ytlejjfhgfajoiaa
open Go.RowKit
set_option linter.unusedVariables false
set_option linter.unusedSimpArgs false


theorem con_len {c : Chain} {l : List Gauge} {ks : List Nat} (h : conO c l = .ok ks) : ks.length ≤ l.length := by
  unfold conO at h
  split at h
  · cases h
  · split at h
    · cases h; exact spK_len _
    · cases h
theorem why_len {c : Chain} {l : List Gauge} {a b most : Int} {ks : List Nat} (h : whyO c l a b most = .ok ks) : ks.length ≤ l.length := by
  unfold whyO at h
  split at h
  · cases h
  · split at h
    · split at h
      · cases h; exact spK_len _
      · cases h
    · cases h


set_option maxRecDepth 100000 in
set_option maxHeartbeats 1000000 in
theorem law_ChainWhy (links pitch limit : Int) (l : List Gauge) (A : Option Addr) (cp : Nat) (sf st sl : Int) (w : World) (hl : InS w noF 4 A l.length (gcell l)) (hn : l.length ≤ 9223372036854775807) :
    Calls Try.prog 13 [.agg [.int .i64 links, .int .i64 pitch, .int .i64 limit].toArray, .slice A l.length cp, .agg [.int .i64 sf, .int .i64 st, .int .i64 sl].toArray].toArray w (Ret (fun v w' => v = .bool true ∧ St w noF [] w')) := by
  refine enter Try.func13 rfl Try.ntmps13 rfl (fun a H => ?_)
  have S := St.start w
  refine seq_list (fun K1 hK1 => ?_)
  refine list_box H rfl S rfl rfl ?_; clear H a S; intro b3 _ a hb3 hbw3 S H
  refine list_box H rfl S rfl rfl ?_; clear H a S; intro b5 _ a hb5 hbw5 S H
  refine list_does H rfl (does_assign rfl) ?_; clear H a; intro a H
  refine hK1 _ _ ?_
  clear hK1 K1
  refine wp_seq_k (fun K2 hK2 => ?_)
  replace H := H.keep [1, 3, 5] rfl
  refine seq_still (fun K3 hK3 => ?_)
  refine still_does H rfl (does_move rfl) ?_; clear H a; intro a H
  refine still_call H rfl rfl Try.func17 rfl rfl (law_Far A l.length cp _) ?_; clear H a; intro a H
  refine still_does H rfl (does_move rfl) ?_; clear H a; intro a H
  apply still_guard (i := 2) (g := 14) (t := 22) (b := false) 8 H rfl rfl (by kernel_rfl) (by kernel_rfl) rfl rfl
  case h1 =>
    intro hg3
    refine still_yes' H rfl rfl (by assumption) ?_
    refine still_does H rfl (by first | exact does_field_pt fo_23_0 rfl | exact does_field fo_23_0 rfl) ?_; intro a H
    refine still_yes' H rfl rfl (by assumption) ?_
    refine still_does H rfl (does_load one_3 rfl (by first | exact boxM.rd S (i := 0) rfl rfl | exact boxM.rd S (i := 1) rfl rfl)) ?_; intro a H
    refine still_yes' H rfl rfl (by assumption) ?_
    refine still_does H rfl (does_gtr rfl rfl) ?_; intro a H
    refine still_yes' H rfl rfl (by assumption) ?_
    refine still_does H rfl (does_move rfl) ?_; intro a H
    apply still_guard (i := 6) (g := 18) (t := 21) (b := true) 3 H rfl rfl (by kernel_rfl) (by kernel_rfl) rfl rfl
    case h1 =>
      intro hg7
      refine still_yes' H rfl rfl (by assumption) ?_
      refine still_does H rfl (by first | exact does_field_pt fo_23_0 rfl | exact does_field fo_23_0 rfl) ?_; intro a H
      refine still_yes' H rfl rfl (by assumption) ?_
      refine still_does H rfl (does_load one_3 rfl (by first | exact boxM.rd S (i := 0) rfl rfl | exact boxM.rd S (i := 1) rfl rfl)) ?_; intro a H
      refine still_yes' H rfl rfl (by assumption) ?_
      refine still_does H rfl (does_leq rfl rfl) ?_; intro a H
      exact wpStill_nil (H.strip 3 rfl rfl)
    case k =>
      intro a H
      refine still_yes' H rfl rfl (by assumption) ?_
      refine still_does H rfl (by first | exact does_and rfl rfl rfl | exact does_pick rfl rfl rfl) ?_; intro a H
      exact wpStill_nil (H.strip 6 rfl rfl)
  case k =>
    clear H a; intro a H
    refine still_does H rfl (by first | exact does_or rfl rfl rfl | exact does_pick rfl rfl rfl) ?_; clear H a; intro a H
    refine wpStill_nil (hK3 _ ?_)
    clear hK3 K3
    refine cond_ H rfl (fun hc1 => ?_) (fun hc1 => ?_)
    · try simp only [Bool.or_eq_true, Bool.and_eq_true, Bool.not_eq_true', Bool.or_eq_false_iff, Bool.and_eq_false_iff, Bool.not_eq_false', decide_eq_true_eq, decide_eq_false_iff_not, Int.not_lt, Int.not_le] at hc1
      replace H := H.keep [] rfl
      refine seq_list (fun K4 hK4 => ?_)
      refine list_call H rfl rfl Try.func18 rfl rfl (law_works _) ?_; clear H a
      rintro _ _ a ⟨rfl, S2⟩ H
      replace S := S.call S2; clear S2
      refine list_does H rfl (does_assign rfl) ?_; clear H a; intro a H
      refine hK4 _ _ ?_
      clear hK4 K4
      refine wp_ret ?_
      refine ret1 (fn := Try.f13) rfl H rfl ?_
      exact ⟨rfl, (S.sel [] rfl rfl)⟩
    · try simp only [Bool.or_eq_true, Bool.and_eq_true, Bool.not_eq_true', Bool.or_eq_false_iff, Bool.and_eq_false_iff, Bool.not_eq_false', decide_eq_true_eq, decide_eq_false_iff_not, Int.not_lt, Int.not_le] at hc1
      refine wp_skip ?_
      refine hK2 _ _ ?_
      rcases hC : conO (⟨links, pitch, limit⟩ : Chain) l with e | ks
      · skip
        skip
        replace H := H.keep [1, 3, 5] rfl
        refine seq_list (fun K5 hK5 => ?_)
        refine list_does H rfl (does_move rfl) ?_; clear H a; intro a H
        refine list_call H rfl rfl Try.func20 rfl rfl (ref_CopyGauges l A cp _ (hl.now S) (by omega)) ?_; clear H a
        rintro _ _ a ⟨A2, c2, rfl, S2⟩ H
        replace S := S.call S2; clear S2
        refine list_does H rfl (does_assign rfl) ?_; clear H a; intro a H
        refine hK5 _ _ ?_
        clear hK5 K5
        replace H := H.keep [1, 3, 5, 7] rfl
        refine seq_list (fun K6 hK6 => ?_)
        refine list_does H rfl (by first | exact does_loadBox agg_23 sz_23 rfl S (i := 0) rfl rfl | exact does_loadBox agg_23 sz_23 rfl S (i := 1) rfl rfl | exact does_loadBox agg_23 sz_23 rfl S (i := 2) rfl rfl) ?_; clear H a; intro a H
        refine list_does H rfl (does_move rfl) ?_; clear H a; intro a H
        refine list_call H rfl rfl Try.func51 rfl rfl (ret_imp (chain_Conflict links pitch limit l A2 c2 _ (ownM.inS S (i := 0) rfl) hn) (fun _ _ h => list_err hC h)) ?_; clear H a
        rintro _ _ a ⟨rfl, S2⟩ H
        replace S := S.call S2; clear S2
        refine list_does H rfl (does_move rfl) ?_; clear H a; intro a H
        refine list_does H rfl (does_extract rfl rfl) ?_; clear H a; intro a H
        refine list_does H rfl (does_extract rfl rfl) ?_; clear H a; intro a H
        refine list_does H rfl (does_assign rfl) ?_; clear H a; intro a H
        refine list_does H rfl (does_assign rfl) ?_; clear H a; intro a H
        refine hK6 _ _ ?_
        clear hK6 K6
        replace H := H.keep [1, 3, 5, 7, 8, 9] rfl
        refine seq_list (fun K7 hK7 => ?_)
        refine list_does H rfl (by first | exact does_loadBox agg_23 sz_23 rfl S (i := 0) rfl rfl | exact does_loadBox agg_23 sz_23 rfl S (i := 1) rfl rfl | exact does_loadBox agg_23 sz_23 rfl S (i := 2) rfl rfl) ?_; clear H a; intro a H
        refine list_does H rfl (does_move rfl) ?_; clear H a; intro a H
        refine list_call H rfl rfl Try.func52 rfl rfl (ret_imp (ref_Conflict links pitch limit l A cp _ (hl.now S) hn) (fun _ _ h => list_err hC h)) ?_; clear H a
        rintro _ _ a ⟨rfl, S2⟩ H
        replace S := S.call S2; clear S2
        refine list_does H rfl (does_move rfl) ?_; clear H a; intro a H
        refine list_does H rfl (does_extract rfl rfl) ?_; clear H a; intro a H
        refine list_does H rfl (does_extract rfl rfl) ?_; clear H a; intro a H
        refine list_does H rfl (does_assign rfl) ?_; clear H a; intro a H
        refine list_does H rfl (does_assign rfl) ?_; clear H a; intro a H
        refine hK7 _ _ ?_
        clear hK7 K7
        refine wp_seq_k (fun K8 hK8 => ?_)
        replace H := H.keep [1, 3, 5, 7, 8, 9, 10, 11] rfl
        refine seq_list (fun K9 hK9 => ?_)
        refine list_does H rfl (does_move rfl) ?_; clear H a; intro a H
        refine list_does H rfl (does_move rfl) ?_; clear H a; intro a H
        refine list_does H rfl (does_neq_same rfl rfl rfl) ?_; clear H a; intro a H
        refine list_does H rfl (does_move rfl) ?_; clear H a; intro a H
        refine list_yes H rfl rfl ?_
        refine list_does H rfl (does_move rfl) ?_; clear H a; intro a H
        refine list_yes H rfl rfl ?_
        refine list_does H rfl (does_move rfl) ?_; clear H a; intro a H
        refine list_yes H rfl rfl ?_
        refine list_call H rfl rfl Try.func22 rfl rfl (ret_imp (law_sameInts none none 0 0 0 0 (fun _ => 0) (fun _ => 0) _ InS.nil InS.nil (by decide) (by decide)) (fun _ _ h => (⟨h.1.trans (congrArg Value.bool (sameB_self 0 _ _ (fun _ h => absurd h (Nat.not_lt_zero _)))), h.2⟩ : _ ∧ _))) ?_; clear H a
        rintro _ _ a ⟨rfl, S2⟩ H
        replace S := S.call S2; clear S2
        refine list_yes H rfl rfl ?_
        refine list_does H rfl (does_not rfl) ?_; clear H a; intro a H
        refine list_does H rfl (by first | exact does_or rfl rfl rfl | exact does_pick rfl rfl rfl) ?_; clear H a; intro a H
        refine hK9 _ _ ?_
        clear hK9 K9
        refine cond_ H rfl (fun hc2 => ?_) (fun hc2 => ?_)
        · skip
          cases hc2
        · skip
          refine wp_skip ?_
          refine hK8 _ _ ?_
          rcases hY : whyO (⟨links, pitch, limit⟩ : Chain) l sf st sl with e9 | ys
          · skip
            skip
            replace H := H.keep [1, 3, 5, 7] rfl
            refine seq_list (fun K10 hK10 => ?_)
            refine list_does H rfl (by first | exact does_loadBox agg_23 sz_23 rfl S (i := 0) rfl rfl | exact does_loadBox agg_23 sz_23 rfl S (i := 1) rfl rfl | exact does_loadBox agg_23 sz_23 rfl S (i := 2) rfl rfl) ?_; clear H a; intro a H
            refine list_does H rfl (does_move rfl) ?_; clear H a; intro a H
            refine list_does H rfl (by first | exact does_field_pt fo_26_0 rfl | exact does_field fo_26_0 rfl) ?_; clear H a; intro a H
            refine list_does H rfl (does_load one_3 rfl (by first | exact boxM.rd S (i := 0) rfl rfl | exact boxM.rd S (i := 1) rfl rfl | exact boxM.rd S (i := 2) rfl rfl)) ?_; clear H a; intro a H
            refine list_does H rfl (by first | exact does_field_pt fo_26_1 rfl | exact does_field fo_26_1 rfl) ?_; clear H a; intro a H
            refine list_does H rfl (does_load one_3 rfl (by first | exact boxM.rd S (i := 0) rfl rfl | exact boxM.rd S (i := 1) rfl rfl | exact boxM.rd S (i := 2) rfl rfl)) ?_; clear H a; intro a H
            refine list_does H rfl (by first | exact does_field_pt fo_26_2 rfl | exact does_field fo_26_2 rfl) ?_; clear H a; intro a H
            refine list_does H rfl (does_load one_3 rfl (by first | exact boxM.rd S (i := 0) rfl rfl | exact boxM.rd S (i := 1) rfl rfl | exact boxM.rd S (i := 2) rfl rfl)) ?_; clear H a; intro a H
            refine list_call H rfl rfl Try.func53 rfl rfl (ret_imp (chain_Why links pitch limit l A2 c2 sf st sl _ (ownM.inS S (i := 0) rfl) hn) (fun _ _ h => list_err hY h)) ?_; clear H a
            rintro _ _ a ⟨rfl, S2⟩ H
            replace S := S.call S2; clear S2
            refine list_does H rfl (does_move rfl) ?_; clear H a; intro a H
            refine list_does H rfl (does_extract rfl rfl) ?_; clear H a; intro a H
            refine list_does H rfl (does_extract rfl rfl) ?_; clear H a; intro a H
            refine list_does H rfl (does_assign rfl) ?_; clear H a; intro a H
            refine list_does H rfl (does_assign rfl) ?_; clear H a; intro a H
            refine hK10 _ _ ?_
            clear hK10 K10
            replace H := H.keep [1, 3, 5, 8, 9] rfl
            refine seq_list (fun K11 hK11 => ?_)
            refine list_does H rfl (by first | exact does_loadBox agg_23 sz_23 rfl S (i := 0) rfl rfl | exact does_loadBox agg_23 sz_23 rfl S (i := 1) rfl rfl | exact does_loadBox agg_23 sz_23 rfl S (i := 2) rfl rfl) ?_; clear H a; intro a H
            refine list_does H rfl (does_move rfl) ?_; clear H a; intro a H
            refine list_does H rfl (by first | exact does_field_pt fo_26_0 rfl | exact does_field fo_26_0 rfl) ?_; clear H a; intro a H
            refine list_does H rfl (does_load one_3 rfl (by first | exact boxM.rd S (i := 0) rfl rfl | exact boxM.rd S (i := 1) rfl rfl | exact boxM.rd S (i := 2) rfl rfl)) ?_; clear H a; intro a H
            refine list_does H rfl (by first | exact does_field_pt fo_26_1 rfl | exact does_field fo_26_1 rfl) ?_; clear H a; intro a H
            refine list_does H rfl (does_load one_3 rfl (by first | exact boxM.rd S (i := 0) rfl rfl | exact boxM.rd S (i := 1) rfl rfl | exact boxM.rd S (i := 2) rfl rfl)) ?_; clear H a; intro a H
            refine list_does H rfl (by first | exact does_field_pt fo_26_2 rfl | exact does_field fo_26_2 rfl) ?_; clear H a; intro a H
            refine list_does H rfl (does_load one_3 rfl (by first | exact boxM.rd S (i := 0) rfl rfl | exact boxM.rd S (i := 1) rfl rfl | exact boxM.rd S (i := 2) rfl rfl)) ?_; clear H a; intro a H
            refine list_call H rfl rfl Try.func54 rfl rfl (ret_imp (ref_Why links pitch limit l A cp sf st sl _ (hl.now S) hn) (fun _ _ h => list_err hY h)) ?_; clear H a
            rintro _ _ a ⟨rfl, S2⟩ H
            replace S := S.call S2; clear S2
            refine list_does H rfl (does_move rfl) ?_; clear H a; intro a H
            refine list_does H rfl (does_extract rfl rfl) ?_; clear H a; intro a H
            refine list_does H rfl (does_extract rfl rfl) ?_; clear H a; intro a H
            refine list_does H rfl (does_assign rfl) ?_; clear H a; intro a H
            refine list_does H rfl (does_assign rfl) ?_; clear H a; intro a H
            refine hK11 _ _ ?_
            clear hK11 K11
            replace H := H.keep [8, 9, 10, 11] rfl
            refine seq_list (fun K12 hK12 => ?_)
            refine list_does H rfl (does_move rfl) ?_; clear H a; intro a H
            refine list_does H rfl (does_move rfl) ?_; clear H a; intro a H
            refine list_call H rfl rfl Try.func22 rfl rfl (ret_imp (law_sameInts none none 0 0 0 0 (fun _ => 0) (fun _ => 0) _ InS.nil InS.nil (by decide) (by decide)) (fun _ _ h => (⟨h.1.trans (congrArg Value.bool (sameB_self 0 _ _ (fun _ h => absurd h (Nat.not_lt_zero _)))), h.2⟩ : _ ∧ _))) ?_; clear H a
            rintro _ _ a ⟨rfl, S2⟩ H
            replace S := S.call S2; clear S2
            refine list_does H rfl (does_move rfl) ?_; clear H a; intro a H
            refine list_yes H rfl rfl ?_
            refine list_does H rfl (does_move rfl) ?_; clear H a; intro a H
            refine list_yes H rfl rfl ?_
            refine list_does H rfl (does_move rfl) ?_; clear H a; intro a H
            refine list_yes H rfl rfl ?_
            refine list_does H rfl (does_eql_same rfl rfl rfl) ?_; clear H a; intro a H
            refine list_does H rfl (by first | exact does_and rfl rfl rfl | exact does_pick rfl rfl rfl) ?_; clear H a; intro a H
            refine list_does H rfl (does_move rfl) ?_; clear H a; intro a H
            refine list_yes H rfl rfl ?_
            refine list_call H rfl rfl Try.func18 rfl rfl (law_works _) ?_; clear H a
            rintro _ _ a ⟨rfl, S2⟩ H
            replace S := S.call S2; clear S2
            refine list_does H rfl (by first | exact does_and rfl rfl rfl | exact does_pick rfl rfl rfl) ?_; clear H a; intro a H
            refine list_does H rfl (does_assign rfl) ?_; clear H a; intro a H
            refine hK12 _ _ ?_
            clear hK12 K12
            refine wp_ret ?_
            refine ret1 (fn := Try.f13) rfl H rfl ?_
            exact ⟨rfl, (S.sel [] rfl rfl)⟩
          · skip
            have hyl : ys.length ≤ 1000000 := by have := why_len hY; omega
            replace H := H.keep [1, 3, 5, 7] rfl
            refine seq_list (fun K13 hK13 => ?_)
            refine list_does H rfl (by first | exact does_loadBox agg_23 sz_23 rfl S (i := 0) rfl rfl | exact does_loadBox agg_23 sz_23 rfl S (i := 1) rfl rfl | exact does_loadBox agg_23 sz_23 rfl S (i := 2) rfl rfl) ?_; clear H a; intro a H
            refine list_does H rfl (does_move rfl) ?_; clear H a; intro a H
            refine list_does H rfl (by first | exact does_field_pt fo_26_0 rfl | exact does_field fo_26_0 rfl) ?_; clear H a; intro a H
            refine list_does H rfl (does_load one_3 rfl (by first | exact boxM.rd S (i := 0) rfl rfl | exact boxM.rd S (i := 1) rfl rfl | exact boxM.rd S (i := 2) rfl rfl)) ?_; clear H a; intro a H
            refine list_does H rfl (by first | exact does_field_pt fo_26_1 rfl | exact does_field fo_26_1 rfl) ?_; clear H a; intro a H
            refine list_does H rfl (does_load one_3 rfl (by first | exact boxM.rd S (i := 0) rfl rfl | exact boxM.rd S (i := 1) rfl rfl | exact boxM.rd S (i := 2) rfl rfl)) ?_; clear H a; intro a H
            refine list_does H rfl (by first | exact does_field_pt fo_26_2 rfl | exact does_field fo_26_2 rfl) ?_; clear H a; intro a H
            refine list_does H rfl (does_load one_3 rfl (by first | exact boxM.rd S (i := 0) rfl rfl | exact boxM.rd S (i := 1) rfl rfl | exact boxM.rd S (i := 2) rfl rfl)) ?_; clear H a; intro a H
            refine list_call H rfl rfl Try.func53 rfl rfl (ret_imp (chain_Why links pitch limit l A2 c2 sf st sl _ (ownM.inS S (i := 0) rfl) hn) (fun _ _ h => list_ok hY h)) ?_; clear H a
            rintro _ _ a ⟨Ap3, cp3, rfl, S2⟩ H
            replace S := S.call S2; clear S2
            refine list_does H rfl (does_move rfl) ?_; clear H a; intro a H
            refine list_does H rfl (does_extract rfl rfl) ?_; clear H a; intro a H
            refine list_does H rfl (does_extract rfl rfl) ?_; clear H a; intro a H
            refine list_does H rfl (does_assign rfl) ?_; clear H a; intro a H
            refine list_does H rfl (does_assign rfl) ?_; clear H a; intro a H
            refine hK13 _ _ ?_
            clear hK13 K13
            replace H := H.keep [1, 3, 5, 8, 9] rfl
            refine seq_list (fun K14 hK14 => ?_)
            refine list_does H rfl (by first | exact does_loadBox agg_23 sz_23 rfl S (i := 0) rfl rfl | exact does_loadBox agg_23 sz_23 rfl S (i := 1) rfl rfl | exact does_loadBox agg_23 sz_23 rfl S (i := 2) rfl rfl | exact does_loadBox agg_23 sz_23 rfl S (i := 3) rfl rfl) ?_; clear H a; intro a H
            refine list_does H rfl (does_move rfl) ?_; clear H a; intro a H
            refine list_does H rfl (by first | exact does_field_pt fo_26_0 rfl | exact does_field fo_26_0 rfl) ?_; clear H a; intro a H
            refine list_does H rfl (does_load one_3 rfl (by first | exact boxM.rd S (i := 0) rfl rfl | exact boxM.rd S (i := 1) rfl rfl | exact boxM.rd S (i := 2) rfl rfl | exact boxM.rd S (i := 3) rfl rfl)) ?_; clear H a; intro a H
            refine list_does H rfl (by first | exact does_field_pt fo_26_1 rfl | exact does_field fo_26_1 rfl) ?_; clear H a; intro a H
            refine list_does H rfl (does_load one_3 rfl (by first | exact boxM.rd S (i := 0) rfl rfl | exact boxM.rd S (i := 1) rfl rfl | exact boxM.rd S (i := 2) rfl rfl | exact boxM.rd S (i := 3) rfl rfl)) ?_; clear H a; intro a H
            refine list_does H rfl (by first | exact does_field_pt fo_26_2 rfl | exact does_field fo_26_2 rfl) ?_; clear H a; intro a H
            refine list_does H rfl (does_load one_3 rfl (by first | exact boxM.rd S (i := 0) rfl rfl | exact boxM.rd S (i := 1) rfl rfl | exact boxM.rd S (i := 2) rfl rfl | exact boxM.rd S (i := 3) rfl rfl)) ?_; clear H a; intro a H
            refine list_call H rfl rfl Try.func54 rfl rfl (ret_imp (ref_Why links pitch limit l A cp sf st sl _ (hl.now S) hn) (fun _ _ h => list_ok hY h)) ?_; clear H a
            rintro _ _ a ⟨Ap4, cp4, rfl, S2⟩ H
            replace S := S.call S2; clear S2
            refine list_does H rfl (does_move rfl) ?_; clear H a; intro a H
            refine list_does H rfl (does_extract rfl rfl) ?_; clear H a; intro a H
            refine list_does H rfl (does_extract rfl rfl) ?_; clear H a; intro a H
            refine list_does H rfl (does_assign rfl) ?_; clear H a; intro a H
            refine list_does H rfl (does_assign rfl) ?_; clear H a; intro a H
            refine hK14 _ _ ?_
            clear hK14 K14
            replace H := H.keep [8, 9, 10, 11] rfl
            refine seq_list (fun K15 hK15 => ?_)
            refine list_does H rfl (does_move rfl) ?_; clear H a; intro a H
            refine list_does H rfl (does_move rfl) ?_; clear H a; intro a H
            refine list_call H rfl rfl Try.func22 rfl rfl (ret_imp (law_sameInts Ap3 Ap4 _ _ cp3 cp4 (fun k => ((ys.getD k 0 : Nat) : Int)) (fun k => ((ys.getD k 0 : Nat) : Int)) _ (ownM.inS S (i := 1) rfl) (ownM.inS S (i := 0) rfl) hyl hyl) (fun _ _ h => (⟨h.1.trans (congrArg Value.bool (sameB_self _ _ _ (fun _ _ => rfl))), h.2⟩ : _ ∧ _))) ?_; clear H a
            rintro _ _ a ⟨rfl, S2⟩ H
            replace S := S.call S2; clear S2
            refine list_does H rfl (does_move rfl) ?_; clear H a; intro a H
            refine list_yes H rfl rfl ?_
            refine list_does H rfl (does_move rfl) ?_; clear H a; intro a H
            refine list_yes H rfl rfl ?_
            refine list_does H rfl (does_move rfl) ?_; clear H a; intro a H
            refine list_yes H rfl rfl ?_
            refine list_does H rfl (does_eql_same rfl rfl rfl) ?_; clear H a; intro a H
            refine list_does H rfl (by first | exact does_and rfl rfl rfl | exact does_pick rfl rfl rfl) ?_; clear H a; intro a H
            refine list_does H rfl (does_move rfl) ?_; clear H a; intro a H
            refine list_yes H rfl rfl ?_
            refine list_call H rfl rfl Try.func18 rfl rfl (law_works _) ?_; clear H a
            rintro _ _ a ⟨rfl, S2⟩ H
            replace S := S.call S2; clear S2
            refine list_does H rfl (by first | exact does_and rfl rfl rfl | exact does_pick rfl rfl rfl) ?_; clear H a; intro a H
            refine list_does H rfl (does_assign rfl) ?_; clear H a; intro a H
            refine hK15 _ _ ?_
            clear hK15 K15
            refine wp_ret ?_
            refine ret1 (fn := Try.f13) rfl H rfl ?_
            exact ⟨rfl, (S.sel [] rfl rfl)⟩
      · skip
        have hkl : ks.length ≤ 1000000 := by have := con_len hC; omega
        replace H := H.keep [1, 3, 5] rfl
        refine seq_list (fun K16 hK16 => ?_)
        refine list_does H rfl (does_move rfl) ?_; clear H a; intro a H
        refine list_call H rfl rfl Try.func20 rfl rfl (ref_CopyGauges l A cp _ (hl.now S) (by omega)) ?_; clear H a
        rintro _ _ a ⟨A2, c2, rfl, S2⟩ H
        replace S := S.call S2; clear S2
        refine list_does H rfl (does_assign rfl) ?_; clear H a; intro a H
        refine hK16 _ _ ?_
        clear hK16 K16
        replace H := H.keep [1, 3, 5, 7] rfl
        refine seq_list (fun K17 hK17 => ?_)
        refine list_does H rfl (by first | exact does_loadBox agg_23 sz_23 rfl S (i := 0) rfl rfl | exact does_loadBox agg_23 sz_23 rfl S (i := 1) rfl rfl | exact does_loadBox agg_23 sz_23 rfl S (i := 2) rfl rfl) ?_; clear H a; intro a H
        refine list_does H rfl (does_move rfl) ?_; clear H a; intro a H
        refine list_call H rfl rfl Try.func51 rfl rfl (ret_imp (chain_Conflict links pitch limit l A2 c2 _ (ownM.inS S (i := 0) rfl) hn) (fun _ _ h => list_ok hC h)) ?_; clear H a
        rintro _ _ a ⟨Ap1, cp1, rfl, S2⟩ H
        replace S := S.call S2; clear S2
        refine list_does H rfl (does_move rfl) ?_; clear H a; intro a H
        refine list_does H rfl (does_extract rfl rfl) ?_; clear H a; intro a H
        refine list_does H rfl (does_extract rfl rfl) ?_; clear H a; intro a H
        refine list_does H rfl (does_assign rfl) ?_; clear H a; intro a H
        refine list_does H rfl (does_assign rfl) ?_; clear H a; intro a H
        refine hK17 _ _ ?_
        clear hK17 K17
        replace H := H.keep [1, 3, 5, 7, 8, 9] rfl
        refine seq_list (fun K18 hK18 => ?_)
        refine list_does H rfl (by first | exact does_loadBox agg_23 sz_23 rfl S (i := 0) rfl rfl | exact does_loadBox agg_23 sz_23 rfl S (i := 1) rfl rfl | exact does_loadBox agg_23 sz_23 rfl S (i := 2) rfl rfl | exact does_loadBox agg_23 sz_23 rfl S (i := 3) rfl rfl) ?_; clear H a; intro a H
        refine list_does H rfl (does_move rfl) ?_; clear H a; intro a H
        refine list_call H rfl rfl Try.func52 rfl rfl (ret_imp (ref_Conflict links pitch limit l A cp _ (hl.now S) hn) (fun _ _ h => list_ok hC h)) ?_; clear H a
        rintro _ _ a ⟨Ap2, cp2, rfl, S2⟩ H
        replace S := S.call S2; clear S2
        refine list_does H rfl (does_move rfl) ?_; clear H a; intro a H
        refine list_does H rfl (does_extract rfl rfl) ?_; clear H a; intro a H
        refine list_does H rfl (does_extract rfl rfl) ?_; clear H a; intro a H
        refine list_does H rfl (does_assign rfl) ?_; clear H a; intro a H
        refine list_does H rfl (does_assign rfl) ?_; clear H a; intro a H
        refine hK18 _ _ ?_
        clear hK18 K18
        refine wp_seq_k (fun K19 hK19 => ?_)
        replace H := H.keep [1, 3, 5, 7, 8, 9, 10, 11] rfl
        refine seq_list (fun K20 hK20 => ?_)
        refine list_does H rfl (does_move rfl) ?_; clear H a; intro a H
        refine list_does H rfl (does_move rfl) ?_; clear H a; intro a H
        refine list_does H rfl (does_neq_same rfl rfl rfl) ?_; clear H a; intro a H
        refine list_does H rfl (does_move rfl) ?_; clear H a; intro a H
        refine list_yes H rfl rfl ?_
        refine list_does H rfl (does_move rfl) ?_; clear H a; intro a H
        refine list_yes H rfl rfl ?_
        refine list_does H rfl (does_move rfl) ?_; clear H a; intro a H
        refine list_yes H rfl rfl ?_
        refine list_call H rfl rfl Try.func22 rfl rfl (ret_imp (law_sameInts Ap1 Ap2 _ _ cp1 cp2 (fun k => ((ks.getD k 0 : Nat) : Int)) (fun k => ((ks.getD k 0 : Nat) : Int)) _ (ownM.inS S (i := 1) rfl) (ownM.inS S (i := 0) rfl) hkl hkl) (fun _ _ h => (⟨h.1.trans (congrArg Value.bool (sameB_self _ _ _ (fun _ _ => rfl))), h.2⟩ : _ ∧ _))) ?_; clear H a
        rintro _ _ a ⟨rfl, S2⟩ H
        replace S := S.call S2; clear S2
        refine list_yes H rfl rfl ?_
        refine list_does H rfl (does_not rfl) ?_; clear H a; intro a H
        refine list_does H rfl (by first | exact does_or rfl rfl rfl | exact does_pick rfl rfl rfl) ?_; clear H a; intro a H
        refine hK20 _ _ ?_
        clear hK20 K20
        refine cond_ H rfl (fun hc3 => ?_) (fun hc3 => ?_)
        · skip
          cases hc3
        · skip
          refine wp_skip ?_
          refine hK19 _ _ ?_
          rcases hY : whyO (⟨links, pitch, limit⟩ : Chain) l sf st sl with e9 | ys
          · skip
            skip
            replace H := H.keep [1, 3, 5, 7] rfl
            refine seq_list (fun K21 hK21 => ?_)
            refine list_does H rfl (by first | exact does_loadBox agg_23 sz_23 rfl S (i := 0) rfl rfl | exact does_loadBox agg_23 sz_23 rfl S (i := 1) rfl rfl | exact does_loadBox agg_23 sz_23 rfl S (i := 2) rfl rfl | exact does_loadBox agg_23 sz_23 rfl S (i := 3) rfl rfl | exact does_loadBox agg_23 sz_23 rfl S (i := 4) rfl rfl) ?_; clear H a; intro a H
            refine list_does H rfl (does_move rfl) ?_; clear H a; intro a H
            refine list_does H rfl (by first | exact does_field_pt fo_26_0 rfl | exact does_field fo_26_0 rfl) ?_; clear H a; intro a H
            refine list_does H rfl (does_load one_3 rfl (by first | exact boxM.rd S (i := 0) rfl rfl | exact boxM.rd S (i := 1) rfl rfl | exact boxM.rd S (i := 2) rfl rfl | exact boxM.rd S (i := 3) rfl rfl | exact boxM.rd S (i := 4) rfl rfl)) ?_; clear H a; intro a H
            refine list_does H rfl (by first | exact does_field_pt fo_26_1 rfl | exact does_field fo_26_1 rfl) ?_; clear H a; intro a H
            refine list_does H rfl (does_load one_3 rfl (by first | exact boxM.rd S (i := 0) rfl rfl | exact boxM.rd S (i := 1) rfl rfl | exact boxM.rd S (i := 2) rfl rfl | exact boxM.rd S (i := 3) rfl rfl | exact boxM.rd S (i := 4) rfl rfl)) ?_; clear H a; intro a H
            refine list_does H rfl (by first | exact does_field_pt fo_26_2 rfl | exact does_field fo_26_2 rfl) ?_; clear H a; intro a H
            refine list_does H rfl (does_load one_3 rfl (by first | exact boxM.rd S (i := 0) rfl rfl | exact boxM.rd S (i := 1) rfl rfl | exact boxM.rd S (i := 2) rfl rfl | exact boxM.rd S (i := 3) rfl rfl | exact boxM.rd S (i := 4) rfl rfl)) ?_; clear H a; intro a H
            refine list_call H rfl rfl Try.func53 rfl rfl (ret_imp (chain_Why links pitch limit l A2 c2 sf st sl _ (ownM.inS S (i := 2) rfl) hn) (fun _ _ h => list_err hY h)) ?_; clear H a
            rintro _ _ a ⟨rfl, S2⟩ H
            replace S := S.call S2; clear S2
            refine list_does H rfl (does_move rfl) ?_; clear H a; intro a H
            refine list_does H rfl (does_extract rfl rfl) ?_; clear H a; intro a H
            refine list_does H rfl (does_extract rfl rfl) ?_; clear H a; intro a H
            refine list_does H rfl (does_assign rfl) ?_; clear H a; intro a H
            refine list_does H rfl (does_assign rfl) ?_; clear H a; intro a H
            refine hK21 _ _ ?_
            clear hK21 K21
            replace H := H.keep [1, 3, 5, 8, 9] rfl
            refine seq_list (fun K22 hK22 => ?_)
            refine list_does H rfl (by first | exact does_loadBox agg_23 sz_23 rfl S (i := 0) rfl rfl | exact does_loadBox agg_23 sz_23 rfl S (i := 1) rfl rfl | exact does_loadBox agg_23 sz_23 rfl S (i := 2) rfl rfl | exact does_loadBox agg_23 sz_23 rfl S (i := 3) rfl rfl | exact does_loadBox agg_23 sz_23 rfl S (i := 4) rfl rfl) ?_; clear H a; intro a H
            refine list_does H rfl (does_move rfl) ?_; clear H a; intro a H
            refine list_does H rfl (by first | exact does_field_pt fo_26_0 rfl | exact does_field fo_26_0 rfl) ?_; clear H a; intro a H
            refine list_does H rfl (does_load one_3 rfl (by first | exact boxM.rd S (i := 0) rfl rfl | exact boxM.rd S (i := 1) rfl rfl | exact boxM.rd S (i := 2) rfl rfl | exact boxM.rd S (i := 3) rfl rfl | exact boxM.rd S (i := 4) rfl rfl)) ?_; clear H a; intro a H
            refine list_does H rfl (by first | exact does_field_pt fo_26_1 rfl | exact does_field fo_26_1 rfl) ?_; clear H a; intro a H
            refine list_does H rfl (does_load one_3 rfl (by first | exact boxM.rd S (i := 0) rfl rfl | exact boxM.rd S (i := 1) rfl rfl | exact boxM.rd S (i := 2) rfl rfl | exact boxM.rd S (i := 3) rfl rfl | exact boxM.rd S (i := 4) rfl rfl)) ?_; clear H a; intro a H
            refine list_does H rfl (by first | exact does_field_pt fo_26_2 rfl | exact does_field fo_26_2 rfl) ?_; clear H a; intro a H
            refine list_does H rfl (does_load one_3 rfl (by first | exact boxM.rd S (i := 0) rfl rfl | exact boxM.rd S (i := 1) rfl rfl | exact boxM.rd S (i := 2) rfl rfl | exact boxM.rd S (i := 3) rfl rfl | exact boxM.rd S (i := 4) rfl rfl)) ?_; clear H a; intro a H
            refine list_call H rfl rfl Try.func54 rfl rfl (ret_imp (ref_Why links pitch limit l A cp sf st sl _ (hl.now S) hn) (fun _ _ h => list_err hY h)) ?_; clear H a
            rintro _ _ a ⟨rfl, S2⟩ H
            replace S := S.call S2; clear S2
            refine list_does H rfl (does_move rfl) ?_; clear H a; intro a H
            refine list_does H rfl (does_extract rfl rfl) ?_; clear H a; intro a H
            refine list_does H rfl (does_extract rfl rfl) ?_; clear H a; intro a H
            refine list_does H rfl (does_assign rfl) ?_; clear H a; intro a H
            refine list_does H rfl (does_assign rfl) ?_; clear H a; intro a H
            refine hK22 _ _ ?_
            clear hK22 K22
            replace H := H.keep [8, 9, 10, 11] rfl
            refine seq_list (fun K23 hK23 => ?_)
            refine list_does H rfl (does_move rfl) ?_; clear H a; intro a H
            refine list_does H rfl (does_move rfl) ?_; clear H a; intro a H
            refine list_call H rfl rfl Try.func22 rfl rfl (ret_imp (law_sameInts none none 0 0 0 0 (fun _ => 0) (fun _ => 0) _ InS.nil InS.nil (by decide) (by decide)) (fun _ _ h => (⟨h.1.trans (congrArg Value.bool (sameB_self 0 _ _ (fun _ h => absurd h (Nat.not_lt_zero _)))), h.2⟩ : _ ∧ _))) ?_; clear H a
            rintro _ _ a ⟨rfl, S2⟩ H
            replace S := S.call S2; clear S2
            refine list_does H rfl (does_move rfl) ?_; clear H a; intro a H
            refine list_yes H rfl rfl ?_
            refine list_does H rfl (does_move rfl) ?_; clear H a; intro a H
            refine list_yes H rfl rfl ?_
            refine list_does H rfl (does_move rfl) ?_; clear H a; intro a H
            refine list_yes H rfl rfl ?_
            refine list_does H rfl (does_eql_same rfl rfl rfl) ?_; clear H a; intro a H
            refine list_does H rfl (by first | exact does_and rfl rfl rfl | exact does_pick rfl rfl rfl) ?_; clear H a; intro a H
            refine list_does H rfl (does_move rfl) ?_; clear H a; intro a H
            refine list_yes H rfl rfl ?_
            refine list_call H rfl rfl Try.func18 rfl rfl (law_works _) ?_; clear H a
            rintro _ _ a ⟨rfl, S2⟩ H
            replace S := S.call S2; clear S2
            refine list_does H rfl (by first | exact does_and rfl rfl rfl | exact does_pick rfl rfl rfl) ?_; clear H a; intro a H
            refine list_does H rfl (does_assign rfl) ?_; clear H a; intro a H
            refine hK23 _ _ ?_
            clear hK23 K23
            refine wp_ret ?_
            refine ret1 (fn := Try.f13) rfl H rfl ?_
            exact ⟨rfl, (S.sel [] rfl rfl)⟩
          · skip
            have hyl : ys.length ≤ 1000000 := by have := why_len hY; omega
            replace H := H.keep [1, 3, 5, 7] rfl
            refine seq_list (fun K24 hK24 => ?_)
            refine list_does H rfl (by first | exact does_loadBox agg_23 sz_23 rfl S (i := 0) rfl rfl | exact does_loadBox agg_23 sz_23 rfl S (i := 1) rfl rfl | exact does_loadBox agg_23 sz_23 rfl S (i := 2) rfl rfl | exact does_loadBox agg_23 sz_23 rfl S (i := 3) rfl rfl | exact does_loadBox agg_23 sz_23 rfl S (i := 4) rfl rfl) ?_; clear H a; intro a H
            refine list_does H rfl (does_move rfl) ?_; clear H a; intro a H
            refine list_does H rfl (by first | exact does_field_pt fo_26_0 rfl | exact does_field fo_26_0 rfl) ?_; clear H a; intro a H
            refine list_does H rfl (does_load one_3 rfl (by first | exact boxM.rd S (i := 0) rfl rfl | exact boxM.rd S (i := 1) rfl rfl | exact boxM.rd S (i := 2) rfl rfl | exact boxM.rd S (i := 3) rfl rfl | exact boxM.rd S (i := 4) rfl rfl)) ?_; clear H a; intro a H
            refine list_does H rfl (by first | exact does_field_pt fo_26_1 rfl | exact does_field fo_26_1 rfl) ?_; clear H a; intro a H
            refine list_does H rfl (does_load one_3 rfl (by first | exact boxM.rd S (i := 0) rfl rfl | exact boxM.rd S (i := 1) rfl rfl | exact boxM.rd S (i := 2) rfl rfl | exact boxM.rd S (i := 3) rfl rfl | exact boxM.rd S (i := 4) rfl rfl)) ?_; clear H a; intro a H
            refine list_does H rfl (by first | exact does_field_pt fo_26_2 rfl | exact does_field fo_26_2 rfl) ?_; clear H a; intro a H
            refine list_does H rfl (does_load one_3 rfl (by first | exact boxM.rd S (i := 0) rfl rfl | exact boxM.rd S (i := 1) rfl rfl | exact boxM.rd S (i := 2) rfl rfl | exact boxM.rd S (i := 3) rfl rfl | exact boxM.rd S (i := 4) rfl rfl)) ?_; clear H a; intro a H
            refine list_call H rfl rfl Try.func53 rfl rfl (ret_imp (chain_Why links pitch limit l A2 c2 sf st sl _ (ownM.inS S (i := 2) rfl) hn) (fun _ _ h => list_ok hY h)) ?_; clear H a
            rintro _ _ a ⟨Ap3, cp3, rfl, S2⟩ H
            replace S := S.call S2; clear S2
            refine list_does H rfl (does_move rfl) ?_; clear H a; intro a H
            refine list_does H rfl (does_extract rfl rfl) ?_; clear H a; intro a H
            refine list_does H rfl (does_extract rfl rfl) ?_; clear H a; intro a H
            refine list_does H rfl (does_assign rfl) ?_; clear H a; intro a H
            refine list_does H rfl (does_assign rfl) ?_; clear H a; intro a H
            refine hK24 _ _ ?_
            clear hK24 K24
            replace H := H.keep [1, 3, 5, 8, 9] rfl
            refine seq_list (fun K25 hK25 => ?_)
            refine list_does H rfl (by first | exact does_loadBox agg_23 sz_23 rfl S (i := 0) rfl rfl | exact does_loadBox agg_23 sz_23 rfl S (i := 1) rfl rfl | exact does_loadBox agg_23 sz_23 rfl S (i := 2) rfl rfl | exact does_loadBox agg_23 sz_23 rfl S (i := 3) rfl rfl | exact does_loadBox agg_23 sz_23 rfl S (i := 4) rfl rfl | exact does_loadBox agg_23 sz_23 rfl S (i := 5) rfl rfl) ?_; clear H a; intro a H
            refine list_does H rfl (does_move rfl) ?_; clear H a; intro a H
            refine list_does H rfl (by first | exact does_field_pt fo_26_0 rfl | exact does_field fo_26_0 rfl) ?_; clear H a; intro a H
            refine list_does H rfl (does_load one_3 rfl (by first | exact boxM.rd S (i := 0) rfl rfl | exact boxM.rd S (i := 1) rfl rfl | exact boxM.rd S (i := 2) rfl rfl | exact boxM.rd S (i := 3) rfl rfl | exact boxM.rd S (i := 4) rfl rfl | exact boxM.rd S (i := 5) rfl rfl)) ?_; clear H a; intro a H
            refine list_does H rfl (by first | exact does_field_pt fo_26_1 rfl | exact does_field fo_26_1 rfl) ?_; clear H a; intro a H
            refine list_does H rfl (does_load one_3 rfl (by first | exact boxM.rd S (i := 0) rfl rfl | exact boxM.rd S (i := 1) rfl rfl | exact boxM.rd S (i := 2) rfl rfl | exact boxM.rd S (i := 3) rfl rfl | exact boxM.rd S (i := 4) rfl rfl | exact boxM.rd S (i := 5) rfl rfl)) ?_; clear H a; intro a H
            refine list_does H rfl (by first | exact does_field_pt fo_26_2 rfl | exact does_field fo_26_2 rfl) ?_; clear H a; intro a H
            refine list_does H rfl (does_load one_3 rfl (by first | exact boxM.rd S (i := 0) rfl rfl | exact boxM.rd S (i := 1) rfl rfl | exact boxM.rd S (i := 2) rfl rfl | exact boxM.rd S (i := 3) rfl rfl | exact boxM.rd S (i := 4) rfl rfl | exact boxM.rd S (i := 5) rfl rfl)) ?_; clear H a; intro a H
            refine list_call H rfl rfl Try.func54 rfl rfl (ret_imp (ref_Why links pitch limit l A cp sf st sl _ (hl.now S) hn) (fun _ _ h => list_ok hY h)) ?_; clear H a
            rintro _ _ a ⟨Ap4, cp4, rfl, S2⟩ H
            replace S := S.call S2; clear S2
            refine list_does H rfl (does_move rfl) ?_; clear H a; intro a H
            refine list_does H rfl (does_extract rfl rfl) ?_; clear H a; intro a H
            refine list_does H rfl (does_extract rfl rfl) ?_; clear H a; intro a H
            refine list_does H rfl (does_assign rfl) ?_; clear H a; intro a H
            refine list_does H rfl (does_assign rfl) ?_; clear H a; intro a H
            refine hK25 _ _ ?_
            clear hK25 K25
            replace H := H.keep [8, 9, 10, 11] rfl
            refine seq_list (fun K26 hK26 => ?_)
            refine list_does H rfl (does_move rfl) ?_; clear H a; intro a H
            refine list_does H rfl (does_move rfl) ?_; clear H a; intro a H
            refine list_call H rfl rfl Try.func22 rfl rfl (ret_imp (law_sameInts Ap3 Ap4 _ _ cp3 cp4 (fun k => ((ys.getD k 0 : Nat) : Int)) (fun k => ((ys.getD k 0 : Nat) : Int)) _ (ownM.inS S (i := 1) rfl) (ownM.inS S (i := 0) rfl) hyl hyl) (fun _ _ h => (⟨h.1.trans (congrArg Value.bool (sameB_self _ _ _ (fun _ _ => rfl))), h.2⟩ : _ ∧ _))) ?_; clear H a
            rintro _ _ a ⟨rfl, S2⟩ H
            replace S := S.call S2; clear S2
            refine list_does H rfl (does_move rfl) ?_; clear H a; intro a H
            refine list_yes H rfl rfl ?_
            refine list_does H rfl (does_move rfl) ?_; clear H a; intro a H
            refine list_yes H rfl rfl ?_
            refine list_does H rfl (does_move rfl) ?_; clear H a; intro a H
            refine list_yes H rfl rfl ?_
            refine list_does H rfl (does_eql_same rfl rfl rfl) ?_; clear H a; intro a H
            refine list_does H rfl (by first | exact does_and rfl rfl rfl | exact does_pick rfl rfl rfl) ?_; clear H a; intro a H
            refine list_does H rfl (does_move rfl) ?_; clear H a; intro a H
            refine list_yes H rfl rfl ?_
            refine list_call H rfl rfl Try.func18 rfl rfl (law_works _) ?_; clear H a
            rintro _ _ a ⟨rfl, S2⟩ H
            replace S := S.call S2; clear S2
            refine list_does H rfl (by first | exact does_and rfl rfl rfl | exact does_pick rfl rfl rfl) ?_; clear H a; intro a H
            refine list_does H rfl (does_assign rfl) ?_; clear H a; intro a H
            refine hK26 _ _ ?_
            clear hK26 K26
            refine wp_ret ?_
            refine ret1 (fn := Try.f13) rfl H rfl ?_
            exact ⟨rfl, (S.sel [] rfl rfl)⟩

end Go.Proofs.Ytlejjfhgfajoiaa
