/- ChPo. Printed by gen.py. -/
import Derived.Test.YtlejjfhgfajoiaaChBs
import Derived.Test.YtlejjfhgfajoiaaPos
namespace Go.Proofs.Ytlejjfhgfajoiaa
open Go.RowKit
set_option linter.unusedVariables false
set_option linter.unusedSimpArgs false


set_option maxRecDepth 100000 in
set_option maxHeartbeats 1000000 in
theorem law_sum (B : Option Addr) (n cs : Nat) (f : Nat → Int) (ia ib : Nat) (w : World) (hB : InS w noF 1 B n (fun k _ => .int .i64 (f k))) (hab : ia ≤ ib) (hb : ib ≤ n) (hn : n ≤ 1000) (hf : ∀ k, k < n → 0 ≤ f k ∧ f k ≤ 100000) :
    Calls Try.prog 33 [.slice B n cs, .int .i64 (ia : Int), .int .i64 (ib : Int)].toArray w (Ret (fun v w' => v = .int .i64 (sumR f ia (ib - ia)) ∧ St w noF [] w')) := by
  refine enter Try.func33 rfl Try.ntmps33 rfl (fun a H => ?_)
  have S := St.start w
  refine seq_still (fun K1 hK1 => ?_)
  refine still_does H rfl (does_assign rfl) ?_; clear H a; intro a H
  refine wpStill_nil (hK1 _ ?_)
  clear hK1 K1
  replace H := H.keep [0, 1, 2] rfl
  refine seq_still (fun K2 hK2 => ?_)
  refine still_does H rfl (does_assign rfl) ?_; clear H a; intro a H
  refine wpStill_nil (hK2 _ ?_)
  clear hK2 K2
  refine wp_seq_k (fun K3 hK3 => ?_)
  replace H := H.keep [0, 1, 2, 7] rfl
  refine seq_still (fun K4 hK4 => ?_)
  refine still_does H rfl (does_move rfl) ?_; clear H a; intro a H
  refine still_does H rfl (does_assign rfl) ?_; clear H a; intro a H
  refine wpStill_nil (hK4 _ ?_)
  clear hK4 K4
  refine wp_block ?_
  refine loop_st (X := Nat) (R0 := _) [0, 2] H rfl (fun d => [(7, .int .i64 (sumR f ia d)), (8, .int .i64 ((ia + d : Nat) : Int))]) (fun d => []) (fun g d => d ≤ ib - ia ∧ g + d = ib - ia) (ib - ia) 0 ?_ (S.sel [] rfl rfl) (H.keep [7, 8, 0, 2] rfl) ?_
  · exact ⟨by omega, by omega⟩
  · intro g1 x1 a w1 hp S H K5 hK5
    obtain ⟨d, rfl⟩ : ∃ y, y = x1 := ⟨_, rfl⟩
    skip
    refine wp_seq_k (fun K6 hK6 => ?_)
    replace H := H.keep [0, 2, 7, 8] rfl
    refine seq_still (fun K7 hK7 => ?_)
    refine still_does H rfl (does_move rfl) ?_; clear H a; intro a H
    refine still_does H rfl (does_move rfl) ?_; clear H a; intro a H
    refine still_does H rfl (does_lss rfl rfl) ?_; clear H a; intro a H
    refine wpStill_nil (hK7 _ ?_)
    clear hK7 K7
    refine cond_ H rfl (fun hc1 => ?_) (fun hc1 => ?_)
    · try simp only [Bool.or_eq_true, Bool.and_eq_true, Bool.not_eq_true', Bool.or_eq_false_iff, Bool.and_eq_false_iff, Bool.not_eq_false', decide_eq_true_eq, decide_eq_false_iff_not, Int.not_lt, Int.not_le] at hc1
      refine wp_skip ?_
      refine hK6 _ _ ?_
      refine wp_seq_k (fun K8 hK8 => ?_)
      refine wp_block ?_
      have hsb := sumR_bd hf ia d (by omega); have hfk := hf (ia + d) (by omega)
      replace H := H.keep [0, 2, 7, 8] rfl
      refine one_still ?_
      refine still_does H rfl (does_move rfl) ?_; clear H a; intro a H
      refine still_does H rfl (does_move rfl) ?_; clear H a; intro a H
      refine still_does H rfl (does_move rfl) ?_; clear H a; intro a H
      refine still_does H rfl (by first | exact does_indexN sl_29 sz_3 rfl rfl (by first | exact hB.adr (by omega)) (by first | omega | omega) | exact does_index sl_29 sz_3 rfl rfl (by first | exact hB.adr (by omega)) (by omega) (by first | omega | omega)) ?_; clear H a; intro a H
      refine still_does H rfl (does_load one_3 rfl (by first | exact hB.rd S (by omega) (by omega))) ?_; clear H a; intro a H
      refine still_does H rfl (does_add rfl rfl (by unfold i64ok; omega)) ?_; clear H a; intro a H
      refine still_does H rfl (does_assign rfl) ?_; clear H a; intro a H
      refine wpStill_nil ?_
      refine hK8 _ _ ?_
      replace H := H.keep [0, 2, 7, 8] rfl
      refine one_still ?_
      refine still_does H rfl (does_move rfl) ?_; clear H a; intro a H
      refine still_does H rfl (does_add rfl rfl (by unfold i64ok; omega)) ?_; clear H a; intro a H
      refine still_does H rfl (does_assign rfl) ?_; clear H a; intro a H
      refine wpStill_nil ?_
      exact hK5 (g1 - 1) (d + 1) a _ (by omega) (by omega) (S.sel [] rfl rfl) (H.keep [7, 8, 0, 2] rfl)
    · try simp only [Bool.or_eq_true, Bool.and_eq_true, Bool.not_eq_true', Bool.or_eq_false_iff, Bool.and_eq_false_iff, Bool.not_eq_false', decide_eq_true_eq, decide_eq_false_iff_not, Int.not_lt, Int.not_le] at hc1
      refine wp_exit ?_
      refine hK3 _ _ ?_
      replace H := H.keep [7] rfl
      refine seq_still (fun K11 hK11 => ?_)
      refine still_does H rfl (does_move rfl) ?_; clear H a; intro a H
      refine still_does H rfl (does_assign rfl) ?_; clear H a; intro a H
      refine wpStill_nil (hK11 _ ?_)
      clear hK11 K11
      refine wp_ret ?_
      refine ret1 (fn := Try.f33) rfl H rfl ?_
      have hd9 : d = ib - ia := by omega
      subst hd9
      exact ⟨rfl, (S.sel [] rfl rfl)⟩

theorem law_sumI (B : Option Addr) (n cs : Nat) (f : Nat → Int) (a b : Int) (w : World) (hB : InS w noF 1 B n (fun k _ => .int .i64 (f k))) (h0 : 0 ≤ a) (hab : a ≤ b) (hb : b ≤ n) (hn : n ≤ 1000) (hf : ∀ k, k < n → 0 ≤ f k ∧ f k ≤ 100000) :
    Calls Try.prog 33 [.slice B n cs, .int .i64 a, .int .i64 b].toArray w (Ret fun v w' => v = .int .i64 (sumR f a.toNat (b.toNat - a.toNat)) ∧ St w noF [] w') := by
  have h := law_sum B n cs f a.toNat b.toNat w hB (by omega) (by omega) hn hf
  rw [Int.toNat_of_nonneg h0, Int.toNat_of_nonneg (show 0 ≤ b by omega)] at h
  exact h


set_option maxRecDepth 100000 in
set_option maxHeartbeats 1000000 in
theorem law_Possible (links pitch limit : Int) (l : List Gauge) (A : Option Addr) (cp : Nat) (B : Option Addr) (n cs : Nat) (f : Nat → Int) (w : World) (hl : InS w noF 4 A l.length (gcell l)) (hn : l.length ≤ 9223372036854775807) (hB : InS w noF 1 B n (fun k _ => .int .i64 (f k))) (hBn : n ≤ 9223372036854775807) (h0 : checkE (⟨links, pitch, limit⟩ : Chain) l = 0) :
    Calls Try.prog 32 [.agg [.int .i64 links, .int .i64 pitch, .int .i64 limit].toArray, .slice A l.length cp, .slice B n cs].toArray w (Ret (fun v w' => v = .bool (posB (⟨links, pitch, limit⟩ : Chain) l n f) ∧ St w noF [] w')) := by
  have hck := checkE_ok h0; have hlen := hck.2.1; have hC := hck.1; unfold chainOk at hC; simp only [decide_eq_true_eq] at hC
  refine enter Try.func32 rfl Try.ntmps32 rfl (fun a H => ?_)
  have S := St.start w
  refine seq_list (fun K1 hK1 => ?_)
  refine list_box H rfl S rfl rfl ?_; clear H a S; intro b3 _ a hb3 hbw3 S H
  refine list_does H rfl (does_assign rfl) ?_; clear H a; intro a H
  refine hK1 _ _ ?_
  clear hK1 K1
  refine wp_seq_k (fun K2 hK2 => ?_)
  replace H := H.keep [1, 2, 3] rfl
  refine seq_still (fun K3 hK3 => ?_)
  refine still_does H rfl (does_move rfl) ?_; clear H a; intro a H
  refine still_does H rfl (does_len sl_29 rfl) ?_; clear H a; intro a H
  refine still_does H rfl (by first | exact does_field_pt fo_23_0 rfl | exact does_field fo_23_0 rfl) ?_; clear H a; intro a H
  refine still_does H rfl (does_load one_3 rfl (by first | exact hB.rd S (by omega) (by omega) | exact hl.rd S (by omega) (by omega) | exact boxM.rd S (i := 0) rfl rfl)) ?_; clear H a; intro a H
  refine still_does H rfl (does_neq rfl rfl) ?_; clear H a; intro a H
  refine wpStill_nil (hK3 _ ?_)
  clear hK3 K3
  refine cond_ H rfl (fun hc1 => ?_) (fun hc1 => ?_)
  · try simp only [Bool.or_eq_true, Bool.and_eq_true, Bool.not_eq_true', Bool.or_eq_false_iff, Bool.and_eq_false_iff, Bool.not_eq_false', decide_eq_true_eq, decide_eq_false_iff_not, Int.not_lt, Int.not_le] at hc1
    replace H := H.keep [] rfl
    refine seq_still (fun K4 hK4 => ?_)
    refine still_does H rfl (does_assign rfl) ?_; clear H a; intro a H
    refine wpStill_nil (hK4 _ ?_)
    clear hK4 K4
    refine wp_ret ?_
    refine ret1 (fn := Try.f32) rfl H rfl ?_
    refine ⟨congrArg Value.bool ?_, (S.sel [] rfl rfl)⟩; unfold posB; rw [decide_eq_false (by omega)]; rfl
  · try simp only [Bool.or_eq_true, Bool.and_eq_true, Bool.not_eq_true', Bool.or_eq_false_iff, Bool.and_eq_false_iff, Bool.not_eq_false', decide_eq_true_eq, decide_eq_false_iff_not, Int.not_lt, Int.not_le] at hc1
    refine wp_skip ?_
    refine hK2 _ _ ?_
    refine wp_seq_k (fun K5 hK5 => ?_)
    replace H := H.keep [1, 2, 3] rfl
    refine seq_still (fun K6 hK6 => ?_)
    refine still_does H rfl (does_assign rfl) ?_; clear H a; intro a H
    refine wpStill_nil (hK6 _ ?_)
    clear hK6 K6
    refine wp_block ?_
    refine loop_st (X := Nat) (R0 := _) [1, 2, 3] H rfl (fun k => [(7, .int .i64 (k : Int))]) (fun k => []) (fun g k => k ≤ n ∧ g + k = n ∧ ∀ q, q < k → pitch ≤ f q ∧ f q ≤ limit) (n) 0 ?_ (S.sel [0] rfl rfl) (H.keep [7, 1, 2, 3] rfl) ?_
    · exact ⟨by omega, by omega, fun q hq => absurd hq (Nat.not_lt_zero _)⟩
    · intro g1 x1 a w1 hp S H K7 hK7
      obtain ⟨k, rfl⟩ : ∃ y, y = x1 := ⟨_, rfl⟩
      skip
      refine wp_seq_k (fun K8 hK8 => ?_)
      replace H := H.keep [1, 2, 3, 7] rfl
      refine seq_still (fun K9 hK9 => ?_)
      refine still_does H rfl (does_move rfl) ?_; clear H a; intro a H
      refine still_does H rfl (does_move rfl) ?_; clear H a; intro a H
      refine still_does H rfl (does_len sl_29 rfl) ?_; clear H a; intro a H
      refine still_does H rfl (does_lss rfl rfl) ?_; clear H a; intro a H
      refine wpStill_nil (hK9 _ ?_)
      clear hK9 K9
      refine cond_ H rfl (fun hc2 => ?_) (fun hc2 => ?_)
      · try simp only [Bool.or_eq_true, Bool.and_eq_true, Bool.not_eq_true', Bool.or_eq_false_iff, Bool.and_eq_false_iff, Bool.not_eq_false', decide_eq_true_eq, decide_eq_false_iff_not, Int.not_lt, Int.not_le] at hc2
        refine wp_skip ?_
        refine hK8 _ _ ?_
        refine wp_seq_k (fun K10 hK10 => ?_)
        refine wp_block ?_
        replace H := H.keep [1, 2, 3, 7] rfl
        refine seq_stillD (by kernel_rfl) (by kernel_rfl) (fun K11 hK11 => ?_)
        replace S := S.drew
        refine still_does H rfl (does_move rfl) ?_; clear H a; intro a H
        refine still_does H rfl (does_move rfl) ?_; clear H a; intro a H
        refine still_does H rfl (by first | exact does_indexN sl_29 sz_3 rfl rfl (by first | exact hB.adr (by omega) | exact hl.adr (by omega)) (by first | omega | omega) | exact does_index sl_29 sz_3 rfl rfl (by first | exact hB.adr (by omega) | exact hl.adr (by omega)) (by omega) (by first | omega | omega)) ?_; clear H a; intro a H
        refine still_does H rfl (does_load one_3 rfl (by first | exact hB.rd S (by omega) (by omega) | exact hl.rd S (by omega) (by omega) | exact boxM.rd S (i := 0) rfl rfl)) ?_; clear H a; intro a H
        refine still_does H rfl (by first | exact does_field_pt fo_23_1 rfl | exact does_field fo_23_1 rfl) ?_; clear H a; intro a H
        refine still_does H rfl (does_load one_3 rfl (by first | exact hB.rd S (by omega) (by omega) | exact hl.rd S (by omega) (by omega) | exact boxM.rd S (i := 0) rfl rfl)) ?_; clear H a; intro a H
        refine still_does H rfl (does_lss rfl rfl) ?_; clear H a; intro a H
        refine still_does H rfl (does_move rfl) ?_; clear H a; intro a H
        apply still_guard (i := 7) (g := 28) (t := 35) (b := false) 7 H rfl rfl (by kernel_rfl) (by kernel_rfl) rfl rfl
        case h1 =>
          intro hg8
          have hq8 := hg8; try simp only [Bool.or_eq_true, Bool.and_eq_true, Bool.not_eq_true', Bool.or_eq_false_iff, Bool.and_eq_false_iff, Bool.not_eq_false', decide_eq_true_eq, decide_eq_false_iff_not, Int.not_lt, Int.not_le] at hq8
          refine still_yes' H rfl rfl (by assumption) ?_
          refine still_does H rfl (does_move rfl) ?_; intro a H
          refine still_yes' H rfl rfl (by assumption) ?_
          refine still_does H rfl (does_move rfl) ?_; intro a H
          refine still_yes' H rfl rfl (by assumption) ?_
          refine still_does H rfl (by first | exact does_indexN sl_29 sz_3 rfl rfl (by first | exact hB.adr (by omega) | exact hl.adr (by omega)) (by first | omega | omega) | exact does_index sl_29 sz_3 rfl rfl (by first | exact hB.adr (by omega) | exact hl.adr (by omega)) (by omega) (by first | omega | omega)) ?_; intro a H
          refine still_yes' H rfl rfl (by assumption) ?_
          refine still_does H rfl (does_load one_3 rfl (by first | exact hB.rd S (by omega) (by omega) | exact hl.rd S (by omega) (by omega) | exact boxM.rd S (i := 0) rfl rfl)) ?_; intro a H
          refine still_yes' H rfl rfl (by assumption) ?_
          refine still_does H rfl (by first | exact does_field_pt fo_23_2 rfl | exact does_field fo_23_2 rfl) ?_; intro a H
          refine still_yes' H rfl rfl (by assumption) ?_
          refine still_does H rfl (does_load one_3 rfl (by first | exact hB.rd S (by omega) (by omega) | exact hl.rd S (by omega) (by omega) | exact boxM.rd S (i := 0) rfl rfl)) ?_; intro a H
          refine still_yes' H rfl rfl (by assumption) ?_
          refine still_does H rfl (does_gtr rfl rfl) ?_; intro a H
          exact wpStill_nil (H.strip 7 rfl rfl)
        case k =>
          clear H a; intro a H
          refine still_does H rfl (by first | exact does_or rfl rfl rfl | exact does_pick rfl rfl rfl) ?_; clear H a; intro a H
          refine wpStill_nil (hK11 _ ?_)
          clear hK11 K11
          refine cond_ H rfl (fun hc3 => ?_) (fun hc3 => ?_)
          · try simp only [Bool.or_eq_true, Bool.and_eq_true, Bool.not_eq_true', Bool.or_eq_false_iff, Bool.and_eq_false_iff, Bool.not_eq_false', decide_eq_true_eq, decide_eq_false_iff_not, Int.not_lt, Int.not_le] at hc3
            replace H := H.keep [] rfl
            refine seq_still (fun K12 hK12 => ?_)
            refine still_does H rfl (does_assign rfl) ?_; clear H a; intro a H
            refine wpStill_nil (hK12 _ ?_)
            clear hK12 K12
            refine wp_ret ?_
            refine ret1 (fn := Try.f32) rfl H rfl ?_
            have e9 : posB (⟨links, pitch, limit⟩ : Chain) l n f = false := by
              rw [← Bool.not_eq_true, posB_iff]; rintro ⟨_, h9, _⟩; have h8 := h9 k (by (try dsimp only); omega); (try dsimp only at h8); omega
            rw [e9]; exact ⟨rfl, (S.sel [] rfl rfl)⟩
          · try simp only [Bool.or_eq_true, Bool.and_eq_true, Bool.not_eq_true', Bool.or_eq_false_iff, Bool.and_eq_false_iff, Bool.not_eq_false', decide_eq_true_eq, decide_eq_false_iff_not, Int.not_lt, Int.not_le] at hc3
            refine wp_skip ?_
            refine hK10 _ _ ?_
            replace H := H.keep [1, 2, 3, 7] rfl
            refine one_still ?_
            refine still_does H rfl (does_move rfl) ?_; clear H a; intro a H
            refine still_does H rfl (does_add rfl rfl (by unfold i64ok; omega)) ?_; clear H a; intro a H
            refine still_does H rfl (does_assign rfl) ?_; clear H a; intro a H
            refine wpStill_nil ?_
            exact hK7 (g1 - 1) (k + 1) a _ (by omega) (⟨by omega, by omega, fun q hq => by
              by_cases h : q = k
              · subst h; omega
              · exact hp.2.2 q (by omega)⟩) (S.sel [0] rfl rfl) (H.keep [7, 1, 2, 3] rfl)
      · try simp only [Bool.or_eq_true, Bool.and_eq_true, Bool.not_eq_true', Bool.or_eq_false_iff, Bool.and_eq_false_iff, Bool.not_eq_false', decide_eq_true_eq, decide_eq_false_iff_not, Int.not_lt, Int.not_le] at hc2
        refine wp_exit ?_
        refine hK5 _ _ ?_
        refine wp_seq_k (fun K14 hK14 => ?_)
        have hk9 : k = n := by omega
        have hlk := hp.2.2; rw [hk9] at hlk
        have hf : ∀ k, k < n → 0 ≤ f k ∧ f k ≤ 100000 := fun k hk => by have := hlk k hk; omega
        replace H := H.keep [1, 2] rfl
        refine seq_still (fun K15 hK15 => ?_)
        refine still_does H rfl (does_assign rfl) ?_; clear H a; intro a H
        refine wpStill_nil (hK15 _ ?_)
        clear hK15 K15
        refine wp_block ?_
        refine loop_st (X := Nat) (R0 := _) [1, 2] H rfl (fun j => [(8, .int .i64 (j : Int))]) (fun j => []) (fun g j => j ≤ l.length ∧ g + j = l.length ∧ (l.take j).all (runB f) = true) (l.length) 0 ?_ (S.sel [0] rfl rfl) (H.keep [8, 1, 2] rfl) ?_
        · exact ⟨by omega, by omega, rfl⟩
        · intro g2 x2 a w2 hp S H K16 hK16
          obtain ⟨j, rfl⟩ : ∃ y, y = x2 := ⟨_, rfl⟩
          skip
          refine wp_seq_k (fun K17 hK17 => ?_)
          replace H := H.keep [1, 2, 8] rfl
          refine seq_still (fun K18 hK18 => ?_)
          refine still_does H rfl (does_move rfl) ?_; clear H a; intro a H
          refine still_does H rfl (does_move rfl) ?_; clear H a; intro a H
          refine still_does H rfl (does_len sl_24 rfl) ?_; clear H a; intro a H
          refine still_does H rfl (does_lss rfl rfl) ?_; clear H a; intro a H
          refine wpStill_nil (hK18 _ ?_)
          clear hK18 K18
          refine cond_ H rfl (fun hc4 => ?_) (fun hc4 => ?_)
          · try simp only [Bool.or_eq_true, Bool.and_eq_true, Bool.not_eq_true', Bool.or_eq_false_iff, Bool.and_eq_false_iff, Bool.not_eq_false', decide_eq_true_eq, decide_eq_false_iff_not, Int.not_lt, Int.not_le] at hc4
            refine wp_skip ?_
            refine hK17 _ _ ?_
            refine wp_seq_k (fun K19 hK19 => ?_)
            refine wp_block ?_
            have hgk := getD_ok hck.2.2 (show j < l.length by omega)
            unfold gaugeOk at hgk; simp only [decide_eq_true_eq] at hgk
            replace H := H.keep [1, 2, 8] rfl
            replace S := S.drew
            refine seq_wq [(0, true), (1, true), (2, true), (3, true), (4, true), (5, true), (6, true), (7, true), (8, true), (9, true), (10, true), (11, false), (12, true)] (by kernel_rfl) (by kernel_rfl) (S.sel [0] rfl rfl) (fun K20 hK20 => ?_)
            refine wq_does H rfl rfl (fun _ S => does_move rfl) ?_; clear H a; intro a H
            refine wq_does H rfl rfl (fun _ S => does_move rfl) ?_; clear H a; intro a H
            refine wq_does H rfl rfl (fun _ S => does_move rfl) ?_; clear H a; intro a H
            refine wq_does H rfl rfl (fun _ S => by first | exact does_indexN sl_24 sz_48 rfl rfl (by first | exact hB.adr (by omega) | exact hl.adr (by omega)) (by first | omega | omega) | exact does_index sl_24 sz_48 rfl rfl (by first | exact hB.adr (by omega) | exact hl.adr (by omega)) (by omega) (by first | omega | omega)) ?_; clear H a; intro a H
            refine wq_does H rfl rfl (fun _ S => by first | exact does_field_pt fo_48_0 rfl | exact does_field fo_48_0 rfl) ?_; clear H a; intro a H
            refine wq_does H rfl rfl (fun _ S => does_load one_3 rfl (by first | exact hB.rd S (by omega) (by omega) | exact hl.rd S (by omega) (by omega) | exact boxM.rd S (i := 0) rfl rfl)) ?_; clear H a; intro a H
            refine wq_does H rfl rfl (fun _ S => does_move rfl) ?_; clear H a; intro a H
            refine wq_does H rfl rfl (fun _ S => does_move rfl) ?_; clear H a; intro a H
            refine wq_does H rfl rfl (fun _ S => by first | exact does_indexN sl_24 sz_48 rfl rfl (by first | exact hB.adr (by omega) | exact hl.adr (by omega)) (by first | omega | omega) | exact does_index sl_24 sz_48 rfl rfl (by first | exact hB.adr (by omega) | exact hl.adr (by omega)) (by omega) (by first | omega | omega)) ?_; clear H a; intro a H
            refine wq_does H rfl rfl (fun _ S => by first | exact does_field_pt fo_48_1 rfl | exact does_field fo_48_1 rfl) ?_; clear H a; intro a H
            refine wq_does H rfl rfl (fun _ S => does_load one_3 rfl (by first | exact hB.rd S (by omega) (by omega) | exact hl.rd S (by omega) (by omega) | exact boxM.rd S (i := 0) rfl rfl)) ?_; clear H a; intro a H
            refine wq_eff rfl ?_
            refine list_call H rfl rfl Try.func33 rfl rfl (law_sumI B n cs f (l.getD j Gauge.zero).fr (l.getD j Gauge.zero).to _ (hB.now S) (by omega) (by omega) (by omega) (by omega) hf) ?_; clear H a
            rintro _ _ a ⟨rfl, S2⟩ H
            replace S := S.call S2; clear S2
            refine wpList_nil (And.intro (S.sel [0] rfl rfl) ?_)
            refine wq_does H rfl rfl (fun _ S => does_assign rfl) ?_; clear H a; intro a H
            refine wq_nil ?_
            refine hK20 _ _ ?_
            clear hK20 K20
            replace H := H.keep [1, 2, 8, 9] rfl
            refine seq_still (fun K21 hK21 => ?_)
            refine still_does H rfl (does_move rfl) ?_; clear H a; intro a H
            refine still_does H rfl (does_move rfl) ?_; clear H a; intro a H
            refine still_does H rfl (does_move rfl) ?_; clear H a; intro a H
            refine still_does H rfl (by first | exact does_indexN sl_24 sz_48 rfl rfl (by first | exact hB.adr (by omega) | exact hl.adr (by omega)) (by first | omega | omega) | exact does_index sl_24 sz_48 rfl rfl (by first | exact hB.adr (by omega) | exact hl.adr (by omega)) (by omega) (by first | omega | omega)) ?_; clear H a; intro a H
            refine still_does H rfl (by first | exact does_field_pt fo_48_2 rfl | exact does_field fo_48_2 rfl) ?_; clear H a; intro a H
            refine still_does H rfl (by first | exact does_field_pt fo_42_0 rfl | exact does_field fo_42_0 rfl) ?_; clear H a; intro a H
            refine still_does H rfl (does_load one_3 rfl (by first | exact hB.rd S (by omega) (by omega) | exact hl.rd S (by omega) (by omega) | exact boxM.rd S (i := 0) rfl rfl)) ?_; clear H a; intro a H
            refine still_does H rfl (does_lss rfl rfl) ?_; clear H a; intro a H
            refine still_does H rfl (does_move rfl) ?_; clear H a; intro a H
            apply still_guard (i := 8) (g := 63) (t := 71) (b := false) 8 H rfl rfl (by kernel_rfl) (by kernel_rfl) rfl rfl
            case h1 =>
              intro hg9
              have hq9 := hg9; try simp only [Bool.or_eq_true, Bool.and_eq_true, Bool.not_eq_true', Bool.or_eq_false_iff, Bool.and_eq_false_iff, Bool.not_eq_false', decide_eq_true_eq, decide_eq_false_iff_not, Int.not_lt, Int.not_le] at hq9
              refine still_yes' H rfl rfl (by assumption) ?_
              refine still_does H rfl (does_move rfl) ?_; intro a H
              refine still_yes' H rfl rfl (by assumption) ?_
              refine still_does H rfl (does_move rfl) ?_; intro a H
              refine still_yes' H rfl rfl (by assumption) ?_
              refine still_does H rfl (does_move rfl) ?_; intro a H
              refine still_yes' H rfl rfl (by assumption) ?_
              refine still_does H rfl (by first | exact does_indexN sl_24 sz_48 rfl rfl (by first | exact hB.adr (by omega) | exact hl.adr (by omega)) (by first | omega | omega) | exact does_index sl_24 sz_48 rfl rfl (by first | exact hB.adr (by omega) | exact hl.adr (by omega)) (by omega) (by first | omega | omega)) ?_; intro a H
              refine still_yes' H rfl rfl (by assumption) ?_
              refine still_does H rfl (by first | exact does_field_pt fo_48_2 rfl | exact does_field fo_48_2 rfl) ?_; intro a H
              refine still_yes' H rfl rfl (by assumption) ?_
              refine still_does H rfl (by first | exact does_field_pt fo_42_1 rfl | exact does_field fo_42_1 rfl) ?_; intro a H
              refine still_yes' H rfl rfl (by assumption) ?_
              refine still_does H rfl (does_load one_3 rfl (by first | exact hB.rd S (by omega) (by omega) | exact hl.rd S (by omega) (by omega) | exact boxM.rd S (i := 0) rfl rfl)) ?_; intro a H
              refine still_yes' H rfl rfl (by assumption) ?_
              refine still_does H rfl (does_gtr rfl rfl) ?_; intro a H
              exact wpStill_nil (H.strip 8 rfl rfl)
            case k =>
              clear H a; intro a H
              refine still_does H rfl (by first | exact does_or rfl rfl rfl | exact does_pick rfl rfl rfl) ?_; clear H a; intro a H
              refine wpStill_nil (hK21 _ ?_)
              clear hK21 K21
              refine cond_ H rfl (fun hc5 => ?_) (fun hc5 => ?_)
              · try simp only [Bool.or_eq_true, Bool.and_eq_true, Bool.not_eq_true', Bool.or_eq_false_iff, Bool.and_eq_false_iff, Bool.not_eq_false', decide_eq_true_eq, decide_eq_false_iff_not, Int.not_lt, Int.not_le] at hc5
                replace H := H.keep [] rfl
                refine seq_still (fun K22 hK22 => ?_)
                refine still_does H rfl (does_assign rfl) ?_; clear H a; intro a H
                refine wpStill_nil (hK22 _ ?_)
                clear hK22 K22
                refine wp_ret ?_
                refine ret1 (fn := Try.f32) rfl H rfl ?_
                have e8 : runB f (l.getD j Gauge.zero) = false := by unfold runB; simp only [decide_eq_false_iff_not]; omega
                have e9 : posB (⟨links, pitch, limit⟩ : Chain) l n f = false := by
                  rw [← Bool.not_eq_true, posB_iff]; rintro ⟨_, _, h9⟩; rw [all_false (k := j) (d := Gauge.zero) (by omega) e8] at h9; cases h9
                rw [e9]; exact ⟨rfl, (S.sel [] rfl rfl)⟩
              · try simp only [Bool.or_eq_true, Bool.and_eq_true, Bool.not_eq_true', Bool.or_eq_false_iff, Bool.and_eq_false_iff, Bool.not_eq_false', decide_eq_true_eq, decide_eq_false_iff_not, Int.not_lt, Int.not_le] at hc5
                refine wp_skip ?_
                refine hK19 _ _ ?_
                replace H := H.keep [1, 2, 8] rfl
                refine one_still ?_
                refine still_does H rfl (does_move rfl) ?_; clear H a; intro a H
                refine still_does H rfl (does_add rfl rfl (by unfold i64ok; omega)) ?_; clear H a; intro a H
                refine still_does H rfl (does_assign rfl) ?_; clear H a; intro a H
                refine wpStill_nil ?_
                exact hK16 (g2 - 1) (j + 1) a _ (by omega) (⟨by omega, by omega, all_take (d := Gauge.zero) (by omega) hp.2.2 (by unfold runB; simp only [decide_eq_true_eq]; omega)⟩) (S.sel [0] rfl rfl) (H.keep [8, 1, 2] rfl)
          · try simp only [Bool.or_eq_true, Bool.and_eq_true, Bool.not_eq_true', Bool.or_eq_false_iff, Bool.and_eq_false_iff, Bool.not_eq_false', decide_eq_true_eq, decide_eq_false_iff_not, Int.not_lt, Int.not_le] at hc4
            refine wp_exit ?_
            refine hK14 _ _ ?_
            replace H := H.keep [] rfl
            refine seq_still (fun K24 hK24 => ?_)
            refine still_does H rfl (does_assign rfl) ?_; clear H a; intro a H
            refine wpStill_nil (hK24 _ ?_)
            clear hK24 K24
            refine wp_ret ?_
            refine ret1 (fn := Try.f32) rfl H rfl ?_
            have e9 : posB (⟨links, pitch, limit⟩ : Chain) l n f = true := by
              have h9 := hp.2.2; rw [List.take_of_length_le (by omega)] at h9
              exact posB_iff.2 ⟨by (try dsimp only); omega, fun k hk => hlk k (by (try dsimp only at hk); omega), h9⟩
            rw [e9]; exact ⟨rfl, (S.sel [] rfl rfl)⟩

def fnL (l : List Int) : Nat → Int := fun k => l.getD k 0
theorem law_sum0 (B : Option Addr) (n cs : Nat) (f : Nat → Int) (e : Nat) (w : World) (hB : InS w noF 1 B n (fun k _ => .int .i64 (f k))) (hb : e ≤ n) (hn : n ≤ 1000) (hf : ∀ k, k < n → 0 ≤ f k ∧ f k ≤ 100000) :
    Calls Try.prog 33 [.slice B n cs, .int .i64 0, .int .i64 (e : Int)].toArray w (Ret fun v w' => v = .int .i64 (sumR f 0 e) ∧ St w noF [] w') := law_sum B n cs f 0 e w hB (Nat.zero_le _) hb hn hf
theorem whole_cases {c : Chain} {l : List Gauge} (h : checkE c l = 0) : ∀ asked, (asked = false ∧ wholeO c l asked = .error 1) ∨ (asked = true ∧ weaveW c l yes = none ∧ wholeO c l asked = .error 3) ∨ ∃ M, asked = true ∧ weaveW c l yes = some M ∧ wholeO c l asked = .ok M := by
  intro asked
  cases asked with
  | false => left; unfold wholeO; rw [if_neg (by omega)]; exact ⟨rfl, rfl⟩
  | true =>
    right
    cases hw : weaveW c l yes with
    | none => left; unfold wholeO; rw [if_neg (by omega), if_pos rfl, hw]; exact ⟨rfl, rfl, rfl⟩
    | some M => right; unfold wholeO; rw [if_neg (by omega), if_pos rfl, hw]; exact ⟨M, rfl, rfl, rfl⟩


end Go.Proofs.Ytlejjfhgfajoiaa
