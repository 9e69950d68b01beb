/- ChC. Printed by gen.py. -/
import Derived.Test.YtlejjfhgfajoiaaChB
namespace Go.Proofs.Ytlejjfhgfajoiaa
open Go.RowKit
set_option linter.unusedVariables false
set_option linter.unusedSimpArgs false


theorem bits_Mul1 (n : Nat) (hn : n ≤ 1000000) (w : World) : Calls Try.prog 92 #[.int .u64 (((1 : Nat) : Int)), .int .u64 ((n : Nat) : Int)] w (Ret fun u w' => u = .tuple #[.int .u64 0, .int .u64 (n : Int)] ∧ w' = w) := by
  refine Calls.mono (Try.bits_Mul 1 n (by omega) (by omega) w) fun e w' h => ?_
  obtain ⟨rfl, rfl⟩ := h
  refine ⟨?_, rfl⟩
  have h1 : 1 * n / 18446744073709551616 = 0 := by omega
  have h2 : 1 * n % 18446744073709551616 = n := by omega
  rw [h1, h2]
  rfl
theorem ownM.some' {w0 w : World} {F0 : Nat → Prop} {R : List Mem} {e sz n c i : Nat} {A : Option Addr} {cell : Nat → Nat → Value} (S : St w0 F0 R w) (hi : R[i]? = some (ownM e sz A n c cell)) (hn : 0 < n) : ∃ b, A = some ⟨b, 0, none⟩ := by
  rcases S.holds hi with ⟨_, h, _⟩ | ⟨b, cs, h, _⟩
  · omega
  · exact ⟨b, h⟩
theorem getD1 {v : Value} {j : Nat} (h : j < 1) : [v].getD j undef = v := by
  have : j = 0 := by omega
  subst this; rfl
theorem cutA1 (b c lo : Nat) (h : ¬ c = lo) : cutA (some ⟨b, 0, none⟩) c lo 1 = some ⟨b, lo, none⟩ := by simp [cutA, h, add_lit]


set_option maxRecDepth 100000 in
set_option maxHeartbeats 1000000 in
theorem slices_Repeat (A : Option Addr) (cp : Nat) (v : Int) (n : Nat) (w : World) (hl : InS w noF 1 A 1 (fun _ _ => .int .i64 v)) (h0 : 0 < n) (hn : n ≤ 1000000) :
    Calls Try.prog 90 [.slice A 1 cp, .int .i64 (n : Int)].toArray w (Ret (fun u w' => ∃ b, u = .slice (some ⟨b, 0, none⟩) n n ∧ St w noF [ownM 3 1 (some ⟨b, 0, none⟩) n n (fun _ _ => .int .i64 v)] w')) := by
  refine enter Try.func90 rfl Try.ntmps90 rfl (fun a H => ?_)
  have S := St.start w
  refine seq_still (fun K1 hK1 => ?_)
  refine still_does H rfl (does_assign rfl) ?_; clear H a; intro a H
  refine wpStill_nil (hK1 _ ?_)
  clear hK1 K1
  refine wp_seq_k (fun K2 hK2 => ?_)
  replace H := H.keep [0, 1] rfl
  refine seq_still (fun K3 hK3 => ?_)
  refine still_does H rfl (does_move rfl) ?_; clear H a; intro a H
  refine still_does H rfl (does_lss rfl rfl) ?_; clear H a; intro a H
  refine wpStill_nil (hK3 _ ?_)
  clear hK3 K3
  refine cond_ H rfl (fun hc1 => ?_) (fun hc1 => ?_)
  · try simp only [Bool.or_eq_true, Bool.and_eq_true, Bool.not_eq_true', Bool.or_eq_false_iff, Bool.and_eq_false_iff, Bool.not_eq_false', decide_eq_true_eq, decide_eq_false_iff_not, Int.not_lt, Int.not_le] at hc1
    exfalso; omega
  · try simp only [Bool.or_eq_true, Bool.and_eq_true, Bool.not_eq_true', Bool.or_eq_false_iff, Bool.and_eq_false_iff, Bool.not_eq_false', decide_eq_true_eq, decide_eq_false_iff_not, Int.not_lt, Int.not_le] at hc1
    refine wp_skip ?_
    refine hK2 _ _ ?_
    replace H := H.keep [0, 1] rfl
    refine seq_still (fun K4 hK4 => ?_)
    refine still_does H rfl (does_move rfl) ?_; clear H a; intro a H
    refine still_does H rfl (does_len sl_29 rfl) ?_; clear H a; intro a H
    refine still_does H rfl (does_convert Try.underlying3 Try.underlying131 rfl (by exact u64_in (by omega))) ?_; clear H a; intro a H
    refine still_does H rfl (does_move rfl) ?_; clear H a; intro a H
    refine still_does H rfl (does_convert Try.underlying3 Try.underlying131 rfl (by exact u64_in (by omega))) ?_; clear H a; intro a H
    refine still_call H rfl rfl Try.func92 rfl rfl (bits_Mul1 n hn _) ?_; clear H a; intro a H
    refine still_does H rfl (does_move rfl) ?_; clear H a; intro a H
    refine still_does H rfl (does_extract rfl rfl) ?_; clear H a; intro a H
    refine still_does H rfl (does_extract rfl rfl) ?_; clear H a; intro a H
    refine still_does H rfl (does_assign rfl) ?_; clear H a; intro a H
    refine still_does H rfl (does_assign rfl) ?_; clear H a; intro a H
    refine wpStill_nil (hK4 _ ?_)
    clear hK4 K4
    refine wp_seq_k (fun K5 hK5 => ?_)
    replace H := H.keep [0, 5, 6] rfl
    refine seq_still (fun K6 hK6 => ?_)
    refine still_does H rfl (does_move rfl) ?_; clear H a; intro a H
    refine still_does H rfl (does_gtr rfl rfl) ?_; clear H a; intro a H
    refine still_does H rfl (does_move rfl) ?_; clear H a; intro a H
    apply still_guard (i := 2) (g := 23) (t := 25) (b := false) 2 H rfl rfl (by kernel_rfl) (by kernel_rfl) rfl rfl
    case h1 =>
      intro hg3
      refine still_yes' H rfl rfl (by assumption) ?_
      refine still_does H rfl (does_move rfl) ?_; intro a H
      refine still_yes' H rfl rfl (by assumption) ?_
      refine still_does H rfl (does_gtr rfl rfl) ?_; intro a H
      exact wpStill_nil (H.strip 2 rfl rfl)
    case k =>
      clear H a; intro a H
      refine still_does H rfl (by first | exact does_or rfl rfl rfl | exact does_pick rfl rfl rfl) ?_; clear H a; intro a H
      refine wpStill_nil (hK6 _ ?_)
      clear hK6 K6
      refine cond_ H rfl (fun hc2 => ?_) (fun hc2 => ?_)
      · try simp only [Bool.or_eq_true, Bool.and_eq_true, Bool.not_eq_true', Bool.or_eq_false_iff, Bool.and_eq_false_iff, Bool.not_eq_false', decide_eq_true_eq, decide_eq_false_iff_not, Int.not_lt, Int.not_le] at hc2
        exfalso; omega
      · try simp only [Bool.or_eq_true, Bool.and_eq_true, Bool.not_eq_true', Bool.or_eq_false_iff, Bool.and_eq_false_iff, Bool.not_eq_false', decide_eq_true_eq, decide_eq_false_iff_not, Int.not_lt, Int.not_le] at hc2
        refine wp_skip ?_
        refine hK5 _ _ ?_
        replace H := H.keep [0, 6] rfl
        refine seq_list (fun K7 hK7 => ?_)
        refine list_does H rfl (does_move rfl) ?_; clear H a; intro a H
        refine list_does H rfl (does_convert Try.underlying131 Try.underlying3 rfl (by exact IntWalk.i64_in _ (by omega))) ?_; clear H a; intro a H
        refine list_make (n := _) H rfl S sl_29 sz_3 ze_3 by_3 rfl (by decide) rfl rfl (by omega) (by omega) ?_; clear H a S; intro A1 _ a hA1 S H
        obtain ⟨b, rfl⟩ := ownM.some' S (i := 0) rfl h0
        replace S := S.recell (i := 0) rfl (cell' := fun i _ => if i < 0 then .int .i64 v else .int .i64 0) (fun k j _ hj => by rw [if_neg (by omega)]; exact getD1 hj)
        refine list_does H rfl (does_assign rfl) ?_; clear H a; intro a H
        refine hK7 _ _ ?_
        clear hK7 K7
        replace H := H.keep [0, 7] rfl
        refine seq_list (fun K8 hK8 => ?_)
        refine list_does H rfl (does_move rfl) ?_; clear H a; intro a H
        refine list_does H rfl (does_move rfl) ?_; clear H a; intro a H
        refine list_copy H rfl S sl_29 sz_3 (i := 0) (lo := 0) rfl rfl rfl (fun h => by cases h) rfl (hl.now S) (by omega) (fun _ _ _ _ => rfl) (by omega) ?_; clear H a S; intro _ a S H
        replace S := S.recell (i := 0) rfl (cell' := fun i _ => if i < 1 then .int .i64 v else .int .i64 0) (fun k j hk _ => by (try dsimp only); rw [Nat.min_eq_left (by omega)]; (repeat' split) <;> first | rfl | (exfalso; omega))
        rw [Nat.min_eq_left (by omega)] at H
        refine list_does H rfl (does_assign rfl) ?_; clear H a; intro a H
        refine hK8 _ _ ?_
        clear hK8 K8
        refine wp_seq_k (fun K9 hK9 => ?_)
        refine wp_block ?_
        refine loop_st (X := Nat) (R0 := _) [7] H rfl (fun k => [(8, .int .i64 (k : Int))]) (fun k => [ownM 3 1 (some ⟨b, 0, none⟩) n n (fun i _ => if i < k then .int .i64 v else .int .i64 0)]) (fun g k => 0 < k ∧ k ≤ n ∧ g + k = n) (n - 1) 1 ?_ (S.sel [0] rfl rfl) (H.keep [8, 7] rfl) ?_
        · exact ⟨by omega, by omega, by omega⟩
        · intro g1 x1 a w1 hp S H K10 hK10
          obtain ⟨k, rfl⟩ : ∃ y, y = x1 := ⟨_, rfl⟩
          skip
          refine wp_seq_k (fun K11 hK11 => ?_)
          replace H := H.keep [7, 8] rfl
          refine seq_still (fun K12 hK12 => ?_)
          refine still_does H rfl (does_move rfl) ?_; clear H a; intro a H
          refine still_does H rfl (does_move rfl) ?_; clear H a; intro a H
          refine still_does H rfl (does_len sl_29 rfl) ?_; clear H a; intro a H
          refine still_does H rfl (does_lss rfl rfl) ?_; clear H a; intro a H
          refine wpStill_nil (hK12 _ ?_)
          clear hK12 K12
          refine cond_ H rfl (fun hc3 => ?_) (fun hc3 => ?_)
          · try simp only [Bool.or_eq_true, Bool.and_eq_true, Bool.not_eq_true', Bool.or_eq_false_iff, Bool.and_eq_false_iff, Bool.not_eq_false', decide_eq_true_eq, decide_eq_false_iff_not, Int.not_lt, Int.not_le] at hc3
            refine wp_skip ?_
            refine hK11 _ _ ?_
            refine wp_block ?_
            replace H := H.keep [7, 8] rfl
            replace S := S.drew
            refine one_wq [(0, true), (1, true), (2, true), (3, true), (4, true), (5, true), (6, true), (7, false), (8, true), (9, true)] (by kernel_rfl) (by kernel_rfl) (S.sel [] rfl rfl) ?_
            refine wq_does H rfl rfl (fun _ S => does_move rfl) ?_; clear H a; intro a H
            refine wq_does H rfl rfl (fun _ S => does_move rfl) ?_; clear H a; intro a H
            refine wq_does H rfl rfl (fun _ S => does_move rfl) ?_; clear H a; intro a H
            refine wq_does H rfl rfl (fun _ S => does_slice sl_29 sz_3 rfl (lo := k) (hi := n) (.inr ⟨_, rfl, _, rfl⟩) (.inl ⟨rfl, rfl⟩) (by omega) (by omega)) ?_; clear H a; intro a H
            refine wq_does H rfl rfl (fun _ S => does_move rfl) ?_; clear H a; intro a H
            refine wq_does H rfl rfl (fun _ S => does_move rfl) ?_; clear H a; intro a H
            refine wq_does H rfl rfl (fun _ S => does_slice sl_29 sz_3 rfl (lo := 0) (hi := k) (.inl ⟨rfl, rfl⟩) (.inr ⟨_, rfl, _, rfl⟩) (by omega) (by omega)) ?_; clear H a; intro a H
            refine wq_eff rfl ?_
            refine list_copy H rfl S sl_29 sz_3 (i := 0) (lo := k) rfl rfl (cutA1 _ _ _ (by omega)) (fun h => by cases h) rfl (((ownM.inS S (i := 0) rfl).cut (lo := 0) (hi := k) (by omega) (by omega) (by omega))) (by omega) (fun k' j _ _ => by (try dsimp only); split <;> rfl) (by omega) ?_; clear H a S; intro _ a S H
            replace S := S.recell (i := 0) rfl (cell' := fun i _ => if i < k + min k (n - k) then .int .i64 v else .int .i64 0) (fun k' j hk _ => by (try dsimp only); (repeat' split) <;> first | rfl | (exfalso; omega))
            refine wpList_nil (And.intro (S.sel [] rfl rfl) ?_)
            refine wq_does H rfl rfl (fun _ S => does_add rfl rfl (by unfold i64ok; omega)) ?_; clear H a; intro a H
            refine wq_does H rfl rfl (fun _ S => does_assign rfl) ?_; clear H a; intro a H
            refine wq_nil ?_
            exact hK10 (g1 - min k (n - k)) (k + min k (n - k)) a _ (by omega) (⟨by omega, by omega, by omega⟩) (S.sel [0] rfl rfl) (H.keep [8, 7] rfl)
          · try simp only [Bool.or_eq_true, Bool.and_eq_true, Bool.not_eq_true', Bool.or_eq_false_iff, Bool.and_eq_false_iff, Bool.not_eq_false', decide_eq_true_eq, decide_eq_false_iff_not, Int.not_lt, Int.not_le] at hc3
            refine wp_exit ?_
            refine hK9 _ _ ?_
            replace H := H.keep [7] rfl
            refine seq_still (fun K14 hK14 => ?_)
            refine still_does H rfl (does_move rfl) ?_; clear H a; intro a H
            refine still_does H rfl (does_assign rfl) ?_; clear H a; intro a H
            refine wpStill_nil (hK14 _ ?_)
            clear hK14 K14
            refine wp_ret ?_
            refine ret1 (fn := Try.f90) rfl H rfl ?_
            replace S := S.recell (i := 0) rfl (cell' := fun _ _ => .int .i64 v) (fun k' j hk _ => by rw [if_pos (by omega)])
            exact ⟨_, rfl, (S.sel [0] rfl rfl)⟩

set_option maxRecDepth 100000 in
set_option maxHeartbeats 1000000 in
theorem web_span (n cw : Nat) (W : Option Addr) (rb rc : Nat → Nat) (M : IM) (i j : Nat) (w : World) (F : Nat → Prop) (S : St w F [ownM 29 1 W n cw (fun i _ => rowv rb rc n i), rowsM 3 n n rb rc (M)] w) (hin : i < n) (hjn : j < n) (hM : bdd n 4611686018427387904 M) :
    Calls Try.prog 62 [.slice W n cw, .int .i64 (i : Int), .int .i64 (j : Int)].toArray w (Ret (fun v w' => v = .agg [.int .i64 (-(M j i)), .int .i64 (M i j)].toArray ∧ St w F [ownM 29 1 W n cw (fun i _ => rowv rb rc n i), rowsM 3 n n rb rc (M)] w')) := by
  have hb1 := hM j i hjn hin; have hb2 := hM i j hin hjn
  refine enter Try.func62 rfl Try.ntmps62 rfl (fun a H => ?_)
  skip
  refine seq_list (fun K1 hK1 => ?_)
  refine list_alloc H rfl S ze_42 ?_; clear H a S; intro b6 _ a hb6 hbw6 S H
  refine hK1 _ _ ?_
  clear hK1 K1
  replace H := H.keep [0, 1, 2, 6] rfl
  refine seq_tail 16 (by kernel_rfl) (by kernel_rfl) (fun K2 hK2 => ?_)
  replace S := S.drew
  refine still_does H rfl (does_move rfl) ?_; clear H a; intro a H
  refine still_does H rfl (does_move rfl) ?_; clear H a; intro a H
  refine still_does H rfl (by first | exact does_indexN sl_94 sz_29 rfl rfl (by first | exact ownM.adr S (i := 1) rfl (by omega) | exact rfl) (by first | omega | omega) | exact does_index sl_94 sz_29 rfl rfl (by first | exact ownM.adr S (i := 1) rfl (by omega) | exact rfl) (by omega) (by first | omega | omega)) ?_; clear H a; intro a H
  refine still_does H rfl (does_load one_29 rfl (by first | exact ownM.rd S (i := 1) rfl (by omega) (by omega) | exact rowsM.rd S (i := 2) rfl (by omega) (by omega) | exact boxM.rd S (i := 0) rfl rfl | exact boxM.rd S (i := 1) rfl rfl | exact boxM.rd S (i := 2) rfl rfl)) ?_; clear H a; intro a H
  refine still_does H rfl (does_move rfl) ?_; clear H a; intro a H
  refine still_does H rfl (by first | exact does_indexN sl_29 sz_3 rfl rfl (by first | exact ownM.adr S (i := 1) rfl (by omega) | exact rfl) (by first | omega | omega) | exact does_index sl_29 sz_3 rfl rfl (by first | exact ownM.adr S (i := 1) rfl (by omega) | exact rfl) (by omega) (by first | omega | omega)) ?_; clear H a; intro a H
  refine still_does H rfl (does_load one_3 rfl (by first | exact ownM.rd S (i := 1) rfl (by omega) (by omega) | exact rowsM.rd S (i := 2) rfl (by omega) (by omega) | exact boxM.rd S (i := 0) rfl rfl | exact boxM.rd S (i := 1) rfl rfl | exact boxM.rd S (i := 2) rfl rfl)) ?_; clear H a; intro a H
  refine still_does H rfl (does_neg rfl (by unfold i64ok; omega)) ?_; clear H a; intro a H
  refine still_does H rfl (does_move rfl) ?_; clear H a; intro a H
  refine still_does H rfl (does_move rfl) ?_; clear H a; intro a H
  refine still_does H rfl (by first | exact does_indexN sl_94 sz_29 rfl rfl (by first | exact ownM.adr S (i := 1) rfl (by omega) | exact rfl) (by first | omega | omega) | exact does_index sl_94 sz_29 rfl rfl (by first | exact ownM.adr S (i := 1) rfl (by omega) | exact rfl) (by omega) (by first | omega | omega)) ?_; clear H a; intro a H
  refine still_does H rfl (does_load one_29 rfl (by first | exact ownM.rd S (i := 1) rfl (by omega) (by omega) | exact rowsM.rd S (i := 2) rfl (by omega) (by omega) | exact boxM.rd S (i := 0) rfl rfl | exact boxM.rd S (i := 1) rfl rfl | exact boxM.rd S (i := 2) rfl rfl)) ?_; clear H a; intro a H
  refine still_does H rfl (does_move rfl) ?_; clear H a; intro a H
  refine still_does H rfl (by first | exact does_indexN sl_29 sz_3 rfl rfl (by first | exact ownM.adr S (i := 1) rfl (by omega) | exact rfl) (by first | omega | omega) | exact does_index sl_29 sz_3 rfl rfl (by first | exact ownM.adr S (i := 1) rfl (by omega) | exact rfl) (by omega) (by first | omega | omega)) ?_; clear H a; intro a H
  refine still_does H rfl (does_load one_3 rfl (by first | exact ownM.rd S (i := 1) rfl (by omega) (by omega) | exact rowsM.rd S (i := 2) rfl (by omega) (by omega) | exact boxM.rd S (i := 0) rfl rfl | exact boxM.rd S (i := 1) rfl rfl | exact boxM.rd S (i := 2) rfl rfl)) ?_; clear H a; intro a H
  refine still_does H rfl (does_build bt_42 rfl rfl) ?_; clear H a; intro a H
  refine wpStill_nil ?_
  first | (refine list_store H S (i := 0) rfl rfl rfl rfl sz_42 rfl rfl ?_) | (refine list_store H S (i := 1) rfl rfl rfl rfl sz_42 rfl rfl ?_) | (refine list_store H S (i := 2) rfl rfl rfl rfl sz_42 rfl rfl ?_) | (refine list_store_own H S (i := 0) rfl rfl rfl (by omega) (by omega) sz_42 rfl ?_) | (refine list_store_own H S (i := 1) rfl rfl rfl (by omega) (by omega) sz_42 rfl ?_) | (refine list_store_own H S (i := 2) rfl rfl rfl (by omega) (by omega) sz_42 rfl ?_)
  clear H a S; intro _ a S H
  refine hK2 _ _ ?_
  clear hK2 K2
  refine wp_ret ?_
  refine retA (fn := Try.f62) rfl H rfl agg_42 (by exact sz_42) (boxAgg S (i := 0) rfl) ?_
  exact ⟨rfl, (S.sel [1, 2] rfl rfl)⟩

end Go.Proofs.Ytlejjfhgfajoiaa
