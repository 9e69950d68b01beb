/- ChB. Printed by gen.py. -/
import Derived.Test.YtlejjfhgfajoiaaChA
import Derived.Test.YtlejjfhgfajoiaaWeb
import Derived.Test.YtlejjfhgfajoiaaShelf
namespace Go.Proofs.Ytlejjfhgfajoiaa
open Go.RowKit
set_option linter.unusedVariables false
set_option linter.unusedSimpArgs false


set_option maxRecDepth 100000 in
set_option maxHeartbeats 1000000 in
theorem web_tighten (n cw : Nat) (W : Option Addr) (rb rc : Nat → Nat) (M : IM) (i j : Nat) (lo hi : Int) (w : World) (F : Nat → Prop) (S : St w F [ownM 29 1 W n cw (fun i _ => rowv rb rc n i), rowsM 3 n n rb rc (M)] w) (hin : i < n) (hjn : j < n) (hn : n ≤ 1000) (hM : bdd n 2199023255552 M) (hlo : -2199023255552 ≤ lo ∧ lo ≤ 2199023255552) (hhi : -2199023255552 ≤ hi ∧ hi ≤ 2199023255552) :
    Calls Try.prog 64 [.slice W n cw, .int .i64 (i : Int), .int .i64 (j : Int), .agg [.int .i64 lo, .int .i64 hi].toArray].toArray w (Ret (fun v w' => v = .bool (diagB n (tightM M i j lo hi)) ∧ St w F [ownM 29 1 W n cw (fun i _ => rowv rb rc n i), rowsM 3 n n rb rc (tightM M i j lo hi)] w')) := by
  refine enter Try.func64 rfl Try.ntmps64 rfl (fun a H => ?_)
  skip
  refine seq_list (fun K1 hK1 => ?_)
  refine list_box H rfl S rfl rfl ?_; clear H a S; intro b7 _ a hb7 hbw7 S H
  refine list_does H rfl (does_assign rfl) ?_; clear H a; intro a H
  refine hK1 _ _ ?_
  clear hK1 K1
  refine wp_seq_k (fun K2 hK2 => ?_)
  replace H := H.keep [0, 1, 2, 7] rfl
  refine seq_still (fun K3 hK3 => ?_)
  refine still_does H rfl (does_move rfl) ?_; clear H a; intro a H
  refine still_does H rfl (does_move rfl) ?_; clear H a; intro a H
  refine still_does H rfl (by first | exact does_field_pt fo_42_1 rfl | exact does_field fo_42_1 rfl) ?_; clear H a; intro a H
  refine still_does H rfl (does_load one_3 rfl (by first | exact ownM.rd S (i := 1) rfl (by omega) (by omega) | exact rowsM.rd S (i := 2) rfl (by omega) (by omega) | exact boxM.rd S (i := 0) rfl rfl | exact boxM.rd S (i := 1) rfl rfl | exact boxM.rd S (i := 2) rfl rfl)) ?_; clear H a; intro a H
  refine still_does H rfl (does_build bt_122 rfl rfl) ?_; clear H a; intro a H
  refine still_does H rfl (does_move rfl) ?_; clear H a; intro a H
  refine still_does H rfl (does_move rfl) ?_; clear H a; intro a H
  refine still_does H rfl (by first | exact does_field_pt fo_42_0 rfl | exact does_field fo_42_0 rfl) ?_; clear H a; intro a H
  refine still_does H rfl (does_load one_3 rfl (by first | exact ownM.rd S (i := 1) rfl (by omega) (by omega) | exact rowsM.rd S (i := 2) rfl (by omega) (by omega) | exact boxM.rd S (i := 0) rfl rfl | exact boxM.rd S (i := 1) rfl rfl | exact boxM.rd S (i := 2) rfl rfl)) ?_; clear H a; intro a H
  refine still_does H rfl (does_neg rfl (by unfold i64ok; omega)) ?_; clear H a; intro a H
  refine still_does H rfl (does_build bt_122 rfl rfl) ?_; clear H a; intro a H
  refine still_does H rfl (does_build bt_123 rfl rfl) ?_; clear H a; intro a H
  refine still_does H rfl (does_move rfl) ?_; clear H a; intro a H
  refine wpStill_nil (hK3 _ ?_)
  clear hK3 K3
  refine wp_block ?_
  refine loop_st (X := Nat) (R0 := _) [0, 28] H rfl (fun k => [(29, .int .i64 (k : Int))]) (fun k => [rowsM 3 n n rb rc (arcs M i j lo hi k)]) (fun g k => k ≤ 2 ∧ g + k = 2) (2) 0 ?_ (S.sel [2, 0, 1] rfl rfl) (H.keep [29, 0, 28] rfl) ?_
  · exact ⟨by omega, by omega⟩
  · intro g1 x1 a w1 hp S H K4 hK4
    obtain ⟨k, rfl⟩ : ∃ y, y = x1 := ⟨_, rfl⟩
    skip
    have hk2 : k ≤ 2 := hp.1
    have hxa : xa i j k < n := by unfold xa; split <;> omega
    have hxb : xb i j k < n := by unfold xb; split <;> omega
    have hxf : -2199023255552 ≤ xf lo hi k ∧ xf lo hi k ≤ 2199023255552 := by unfold xf; split <;> omega
    replace H := H.keep [0, 28, 29] rfl
    refine seq_still (fun K5 hK5 => ?_)
    refine still_does H rfl (does_lss rfl rfl) ?_; clear H a; intro a H
    refine wpStill_nil (hK5 _ ?_)
    clear hK5 K5
    refine wp_seq_k (fun K6 hK6 => ?_)
    refine cond_ H rfl (fun hc1 => ?_) (fun hc1 => ?_)
    · try simp only [Bool.or_eq_true, Bool.and_eq_true, Bool.not_eq_true', Bool.or_eq_false_iff, Bool.and_eq_false_iff, Bool.not_eq_false', decide_eq_true_eq, decide_eq_false_iff_not, Int.not_lt, Int.not_le] at hc1
      have hA := arcs_bd hM hin hjn (lo := lo) hhi k (by omega)
      refine wp_skip ?_
      refine hK6 _ _ ?_
      refine wp_seq_k (fun K7 hK7 => ?_)
      refine wp_block ?_
      replace H := H.keep [0, 28, 29] rfl
      refine seq_list (fun K8 hK8 => ?_)
      refine list_does H rfl (does_indexVA Try.underlying123 sz_122 agg_122 rfl rfl (by omega) (by omega) (xcut i j k lo hi (by omega))) ?_; clear H a; intro a H
      refine list_alloc H rfl S ze_122 ?_; clear H a S; intro b10 _ a hb10 hbw10 S H
      first | (refine list_store H S (i := 0) rfl rfl rfl rfl sz_122 rfl rfl ?_) | (refine list_store H S (i := 1) rfl rfl rfl rfl sz_122 rfl rfl ?_) | (refine list_store H S (i := 2) rfl rfl rfl rfl sz_122 rfl rfl ?_) | (refine list_store H S (i := 3) rfl rfl rfl rfl sz_122 rfl rfl ?_) | (refine list_store_own H S (i := 0) rfl rfl rfl (by omega) (by omega) sz_122 rfl ?_) | (refine list_store_own H S (i := 1) rfl rfl rfl (by omega) (by omega) sz_122 rfl ?_) | (refine list_store_own H S (i := 2) rfl rfl rfl (by omega) (by omega) sz_122 rfl ?_) | (refine list_store_own H S (i := 3) rfl rfl rfl (by omega) (by omega) sz_122 rfl ?_)
      clear H a S; intro _ a S H
      refine hK8 _ _ ?_
      clear hK8 K8
      replace H := H.keep [0, 10, 28, 29] rfl
      refine seq_stillD (by kernel_rfl) (by kernel_rfl) (fun K9 hK9 => ?_)
      replace S := S.drew
      refine still_does H rfl (does_indexArr Try.underlying122 sz_3 rfl rfl (by omega) (by omega)) ?_; clear H a; intro a H
      refine still_does H rfl (does_load one_3 rfl (by first | exact ownM.rd S (i := 3) rfl (by omega) (by omega) | exact rowsM.rd S (i := 1) rfl (by omega) (by omega) | exact boxM.rd S (i := 0) rfl rfl | exact boxM.rd S (i := 1) rfl rfl | exact boxM.rd S (i := 2) rfl rfl | exact boxM.rd S (i := 3) rfl rfl)) ?_; clear H a; intro a H
      refine still_does H rfl (does_indexArr Try.underlying122 sz_3 rfl rfl (by omega) (by omega)) ?_; clear H a; intro a H
      refine still_does H rfl (does_load one_3 rfl (by first | exact ownM.rd S (i := 3) rfl (by omega) (by omega) | exact rowsM.rd S (i := 1) rfl (by omega) (by omega) | exact boxM.rd S (i := 0) rfl rfl | exact boxM.rd S (i := 1) rfl rfl | exact boxM.rd S (i := 2) rfl rfl | exact boxM.rd S (i := 3) rfl rfl)) ?_; clear H a; intro a H
      refine still_does H rfl (does_indexArr Try.underlying122 sz_3 rfl rfl (by omega) (by omega)) ?_; clear H a; intro a H
      refine still_does H rfl (does_load one_3 rfl (by first | exact ownM.rd S (i := 3) rfl (by omega) (by omega) | exact rowsM.rd S (i := 1) rfl (by omega) (by omega) | exact boxM.rd S (i := 0) rfl rfl | exact boxM.rd S (i := 1) rfl rfl | exact boxM.rd S (i := 2) rfl rfl | exact boxM.rd S (i := 3) rfl rfl)) ?_; clear H a; intro a H
      refine still_does H rfl (does_assign rfl) ?_; clear H a; intro a H
      refine still_does H rfl (does_assign rfl) ?_; clear H a; intro a H
      refine still_does H rfl (does_assign rfl) ?_; clear H a; intro a H
      refine wpStill_nil (hK9 _ ?_)
      clear hK9 K9
      refine wp_seq_k (fun K10 hK10 => ?_)
      have hv0 := hA (xa i j k) (xb i j k) hxa hxb
      replace H := H.keep [0, 11, 12, 13, 28, 29] rfl
      refine seq_still (fun K11 hK11 => ?_)
      refine still_does H rfl (does_move rfl) ?_; clear H a; intro a H
      refine still_does H rfl (does_move rfl) ?_; clear H a; intro a H
      refine still_does H rfl (by first | exact does_indexN sl_94 sz_29 rfl rfl (by first | exact ownM.adr S (i := 3) rfl (by omega) | exact rfl) (by first | omega | omega) | exact does_index sl_94 sz_29 rfl rfl (by first | exact ownM.adr S (i := 3) rfl (by omega) | exact rfl) (by omega) (by first | omega | omega)) ?_; clear H a; intro a H
      refine still_does H rfl (does_load one_29 rfl (by first | exact ownM.rd S (i := 3) rfl (by omega) (by omega) | exact rowsM.rd S (i := 1) rfl (by omega) (by omega) | exact boxM.rd S (i := 0) rfl rfl | exact boxM.rd S (i := 1) rfl rfl | exact boxM.rd S (i := 2) rfl rfl | exact boxM.rd S (i := 3) rfl rfl)) ?_; clear H a; intro a H
      refine still_does H rfl (does_move rfl) ?_; clear H a; intro a H
      refine still_does H rfl (by first | exact does_indexN sl_29 sz_3 rfl rfl (by first | exact ownM.adr S (i := 3) rfl (by omega) | exact rfl) (by first | omega | omega) | exact does_index sl_29 sz_3 rfl rfl (by first | exact ownM.adr S (i := 3) rfl (by omega) | exact rfl) (by omega) (by first | omega | omega)) ?_; clear H a; intro a H
      refine still_does H rfl (does_load one_3 rfl (by first | exact ownM.rd S (i := 3) rfl (by omega) (by omega) | exact rowsM.rd S (i := 1) rfl (by omega) (by omega) | exact boxM.rd S (i := 0) rfl rfl | exact boxM.rd S (i := 1) rfl rfl | exact boxM.rd S (i := 2) rfl rfl | exact boxM.rd S (i := 3) rfl rfl)) ?_; clear H a; intro a H
      refine still_does H rfl (does_move rfl) ?_; clear H a; intro a H
      refine still_does H rfl (does_leq rfl rfl) ?_; clear H a; intro a H
      refine wpStill_nil (hK11 _ ?_)
      clear hK11 K11
      refine cond_ H rfl (fun hc2 => ?_) (fun hc2 => ?_)
      · try simp only [Bool.or_eq_true, Bool.and_eq_true, Bool.not_eq_true', Bool.or_eq_false_iff, Bool.and_eq_false_iff, Bool.not_eq_false', decide_eq_true_eq, decide_eq_false_iff_not, Int.not_lt, Int.not_le] at hc2
        refine wp_exit ?_
        refine hK7 _ _ ?_
        replace H := H.keep [0, 28, 29] rfl
        refine one_still ?_
        refine still_does H rfl (does_add rfl rfl (by unfold i64ok; omega)) ?_; clear H a; intro a H
        refine still_does H rfl (does_move rfl) ?_; clear H a; intro a H
        refine wpStill_nil ?_
        replace S := rowsM.congr S (i := 1) (M' := arcs M i j lo hi (k + 1)) rfl (fun x y hx hy => by rw [arcs_succ _ _ _ _ _ _ (by omega)]; unfold arc; first | rw [if_pos (by omega)] | (rw [if_neg (by omega)]; rw [show p = n by omega]; exact stg_all _ _ _ _ _ _ _ hx)) (fun _ _ => rfl) (fun _ _ => rfl)
        exact hK4 (g1 - 1) (k + 1) a _ (by omega) (by omega) (S.sel [1, 2, 3] rfl rfl) (H.keep [29, 0, 28] rfl)
      · try simp only [Bool.or_eq_true, Bool.and_eq_true, Bool.not_eq_true', Bool.or_eq_false_iff, Bool.and_eq_false_iff, Bool.not_eq_false', decide_eq_true_eq, decide_eq_false_iff_not, Int.not_lt, Int.not_le] at hc2
        refine wp_skip ?_
        refine hK10 _ _ ?_
        replace H := H.keep [0, 11, 12, 13, 28, 29] rfl
        refine seq_still (fun K13 hK13 => ?_)
        refine still_does H rfl (does_move rfl) ?_; clear H a; intro a H
        refine still_does H rfl (does_len sl_94 rfl) ?_; clear H a; intro a H
        refine still_does H rfl (does_move rfl) ?_; clear H a; intro a H
        refine wpStill_nil (hK13 _ ?_)
        clear hK13 K13
        refine wp_block ?_
        replace S := rowsM.congr S (i := 1) (M' := stg (arcs M i j lo hi k) (xa i j k) (xb i j k) (xf lo hi k) 0 0) rfl (fun x y hx hy => (stg_zero _ _ _ _ _ _).symm) (fun _ _ => rfl) (fun _ _ => rfl)
        refine loop_st (X := Nat) (R0 := _) [0, 11, 12, 13, 28, 29, 48] H rfl (fun p => [(49, .int .i64 (p : Int))]) (fun p => [rowsM 3 n n rb rc (stg (arcs M i j lo hi k) (xa i j k) (xb i j k) (xf lo hi k) p 0)]) (fun g p => p ≤ n ∧ g + p = n) (n) 0 ?_ (S.sel [1, 0, 2, 3] rfl rfl) (H.keep [49, 0, 11, 12, 13, 28, 29, 48] rfl) ?_
        · exact ⟨by omega, by omega⟩
        · intro g2 x2 a w2 hp S H K14 hK14
          obtain ⟨p, rfl⟩ : ∃ y, y = x2 := ⟨_, rfl⟩
          skip
          replace H := H.keep [0, 11, 12, 13, 28, 29, 48, 49] rfl
          refine seq_still (fun K15 hK15 => ?_)
          refine still_does H rfl (does_lss rfl rfl) ?_; clear H a; intro a H
          refine wpStill_nil (hK15 _ ?_)
          clear hK15 K15
          refine wp_seq_k (fun K16 hK16 => ?_)
          refine cond_ H rfl (fun hc3 => ?_) (fun hc3 => ?_)
          · try simp only [Bool.or_eq_true, Bool.and_eq_true, Bool.not_eq_true', Bool.or_eq_false_iff, Bool.and_eq_false_iff, Bool.not_eq_false', decide_eq_true_eq, decide_eq_false_iff_not, Int.not_lt, Int.not_le] at hc3
            refine wp_skip ?_
            refine hK16 _ _ ?_
            refine wp_seq_k (fun K17 hK17 => ?_)
            refine wp_block ?_
            replace H := H.keep [0, 11, 12, 13, 28, 29, 48, 49] rfl
            refine seq_still (fun K18 hK18 => ?_)
            refine still_does H rfl (does_move rfl) ?_; clear H a; intro a H
            refine still_does H rfl (does_assign rfl) ?_; clear H a; intro a H
            refine wpStill_nil (hK18 _ ?_)
            clear hK18 K18
            replace H := H.keep [0, 11, 12, 13, 14, 28, 29, 48, 49] rfl
            refine seq_still (fun K19 hK19 => ?_)
            refine still_does H rfl (does_move rfl) ?_; clear H a; intro a H
            refine still_does H rfl (does_len sl_94 rfl) ?_; clear H a; intro a H
            refine still_does H rfl (does_move rfl) ?_; clear H a; intro a H
            refine wpStill_nil (hK19 _ ?_)
            clear hK19 K19
            refine wp_block ?_
            refine loop_st (X := Nat) (R0 := _) [0, 11, 12, 13, 14, 28, 29, 48, 49, 53] H rfl (fun q => [(54, .int .i64 (q : Int))]) (fun q => [rowsM 3 n n rb rc (stg (arcs M i j lo hi k) (xa i j k) (xb i j k) (xf lo hi k) p q)]) (fun g q => q ≤ n ∧ g + q = n) (n) 0 ?_ (S.sel [0, 1, 2, 3] rfl rfl) (H.keep [54, 0, 11, 12, 13, 14, 28, 29, 48, 49, 53] rfl) ?_
            · exact ⟨by omega, by omega⟩
            · intro g3 x3 a w3 hp S H K20 hK20
              obtain ⟨q, rfl⟩ : ∃ y, y = x3 := ⟨_, rfl⟩
              skip
              have hbd := stg_bd hA hxa hxb (far := xf lo hi k) (by omega) p q
              replace H := H.keep [0, 11, 12, 13, 14, 28, 29, 48, 49, 53, 54] rfl
              refine seq_still (fun K21 hK21 => ?_)
              refine still_does H rfl (does_lss rfl rfl) ?_; clear H a; intro a H
              refine wpStill_nil (hK21 _ ?_)
              clear hK21 K21
              refine wp_seq_k (fun K22 hK22 => ?_)
              refine cond_ H rfl (fun hc4 => ?_) (fun hc4 => ?_)
              · try simp only [Bool.or_eq_true, Bool.and_eq_true, Bool.not_eq_true', Bool.or_eq_false_iff, Bool.and_eq_false_iff, Bool.not_eq_false', decide_eq_true_eq, decide_eq_false_iff_not, Int.not_lt, Int.not_le] at hc4
                refine wp_skip ?_
                refine hK22 _ _ ?_
                refine wp_seq_k (fun K23 hK23 => ?_)
                refine wp_block ?_
                replace H := H.keep [0, 11, 12, 13, 14, 28, 29, 48, 49, 53, 54] rfl
                refine seq_still (fun K24 hK24 => ?_)
                refine still_does H rfl (does_move rfl) ?_; clear H a; intro a H
                refine still_does H rfl (does_assign rfl) ?_; clear H a; intro a H
                refine wpStill_nil (hK24 _ ?_)
                clear hK24 K24
                have hv1 := hbd p (xa i j k) (by omega) hxa; have hv2 := hbd (xb i j k) q hxb (by omega)
                replace H := H.keep [0, 11, 12, 13, 14, 15, 28, 29, 48, 49, 53, 54] rfl
                refine one_tail 31 (by kernel_rfl) (by kernel_rfl) ?_
                replace S := S.drew
                refine still_does H rfl (does_move rfl) ?_; clear H a; intro a H
                refine still_does H rfl (does_move rfl) ?_; clear H a; intro a H
                refine still_does H rfl (by first | exact does_indexN sl_94 sz_29 rfl rfl (by first | exact ownM.adr S (i := 3) rfl (by omega) | exact rfl) (by first | omega | omega) | exact does_index sl_94 sz_29 rfl rfl (by first | exact ownM.adr S (i := 3) rfl (by omega) | exact rfl) (by omega) (by first | omega | omega)) ?_; clear H a; intro a H
                refine still_does H rfl (does_load one_29 rfl (by first | exact ownM.rd S (i := 3) rfl (by omega) (by omega) | exact rowsM.rd S (i := 0) rfl (by omega) (by omega) | exact boxM.rd S (i := 0) rfl rfl | exact boxM.rd S (i := 1) rfl rfl | exact boxM.rd S (i := 2) rfl rfl | exact boxM.rd S (i := 3) rfl rfl)) ?_; clear H a; intro a H
                refine still_does H rfl (does_move rfl) ?_; clear H a; intro a H
                refine still_does H rfl (does_move rfl) ?_; clear H a; intro a H
                refine still_does H rfl (does_move rfl) ?_; clear H a; intro a H
                refine still_does H rfl (by first | exact does_indexN sl_94 sz_29 rfl rfl (by first | exact ownM.adr S (i := 3) rfl (by omega) | exact rfl) (by first | omega | omega) | exact does_index sl_94 sz_29 rfl rfl (by first | exact ownM.adr S (i := 3) rfl (by omega) | exact rfl) (by omega) (by first | omega | omega)) ?_; clear H a; intro a H
                refine still_does H rfl (does_load one_29 rfl (by first | exact ownM.rd S (i := 3) rfl (by omega) (by omega) | exact rowsM.rd S (i := 0) rfl (by omega) (by omega) | exact boxM.rd S (i := 0) rfl rfl | exact boxM.rd S (i := 1) rfl rfl | exact boxM.rd S (i := 2) rfl rfl | exact boxM.rd S (i := 3) rfl rfl)) ?_; clear H a; intro a H
                refine still_does H rfl (does_move rfl) ?_; clear H a; intro a H
                refine still_does H rfl (by first | exact does_indexN sl_29 sz_3 rfl rfl (by first | exact ownM.adr S (i := 3) rfl (by omega) | exact rfl) (by first | omega | omega) | exact does_index sl_29 sz_3 rfl rfl (by first | exact ownM.adr S (i := 3) rfl (by omega) | exact rfl) (by omega) (by first | omega | omega)) ?_; clear H a; intro a H
                refine still_does H rfl (does_load one_3 rfl (by first | exact ownM.rd S (i := 3) rfl (by omega) (by omega) | exact rowsM.rd S (i := 0) rfl (by omega) (by omega) | exact boxM.rd S (i := 0) rfl rfl | exact boxM.rd S (i := 1) rfl rfl | exact boxM.rd S (i := 2) rfl rfl | exact boxM.rd S (i := 3) rfl rfl)) ?_; clear H a; intro a H
                refine still_does H rfl (does_move rfl) ?_; clear H a; intro a H
                refine still_does H rfl (does_move rfl) ?_; clear H a; intro a H
                refine still_does H rfl (by first | exact does_indexN sl_94 sz_29 rfl rfl (by first | exact ownM.adr S (i := 3) rfl (by omega) | exact rfl) (by first | omega | omega) | exact does_index sl_94 sz_29 rfl rfl (by first | exact ownM.adr S (i := 3) rfl (by omega) | exact rfl) (by omega) (by first | omega | omega)) ?_; clear H a; intro a H
                refine still_does H rfl (does_load one_29 rfl (by first | exact ownM.rd S (i := 3) rfl (by omega) (by omega) | exact rowsM.rd S (i := 0) rfl (by omega) (by omega) | exact boxM.rd S (i := 0) rfl rfl | exact boxM.rd S (i := 1) rfl rfl | exact boxM.rd S (i := 2) rfl rfl | exact boxM.rd S (i := 3) rfl rfl)) ?_; clear H a; intro a H
                refine still_does H rfl (does_move rfl) ?_; clear H a; intro a H
                refine still_does H rfl (by first | exact does_indexN sl_29 sz_3 rfl rfl (by first | exact ownM.adr S (i := 3) rfl (by omega) | exact rfl) (by first | omega | omega) | exact does_index sl_29 sz_3 rfl rfl (by first | exact ownM.adr S (i := 3) rfl (by omega) | exact rfl) (by omega) (by first | omega | omega)) ?_; clear H a; intro a H
                refine still_does H rfl (does_load one_3 rfl (by first | exact ownM.rd S (i := 3) rfl (by omega) (by omega) | exact rowsM.rd S (i := 0) rfl (by omega) (by omega) | exact boxM.rd S (i := 0) rfl rfl | exact boxM.rd S (i := 1) rfl rfl | exact boxM.rd S (i := 2) rfl rfl | exact boxM.rd S (i := 3) rfl rfl)) ?_; clear H a; intro a H
                refine still_does H rfl (does_move rfl) ?_; clear H a; intro a H
                refine still_does H rfl (does_add rfl rfl (by unfold i64ok; omega)) ?_; clear H a; intro a H
                refine still_does H rfl (does_move rfl) ?_; clear H a; intro a H
                refine still_does H rfl (does_move rfl) ?_; clear H a; intro a H
                refine still_does H rfl (by first | exact does_indexN sl_94 sz_29 rfl rfl (by first | exact ownM.adr S (i := 3) rfl (by omega) | exact rfl) (by first | omega | omega) | exact does_index sl_94 sz_29 rfl rfl (by first | exact ownM.adr S (i := 3) rfl (by omega) | exact rfl) (by omega) (by first | omega | omega)) ?_; clear H a; intro a H
                refine still_does H rfl (does_load one_29 rfl (by first | exact ownM.rd S (i := 3) rfl (by omega) (by omega) | exact rowsM.rd S (i := 0) rfl (by omega) (by omega) | exact boxM.rd S (i := 0) rfl rfl | exact boxM.rd S (i := 1) rfl rfl | exact boxM.rd S (i := 2) rfl rfl | exact boxM.rd S (i := 3) rfl rfl)) ?_; clear H a; intro a H
                refine still_does H rfl (does_move rfl) ?_; clear H a; intro a H
                refine still_does H rfl (by first | exact does_indexN sl_29 sz_3 rfl rfl (by first | exact ownM.adr S (i := 3) rfl (by omega) | exact rfl) (by first | omega | omega) | exact does_index sl_29 sz_3 rfl rfl (by first | exact ownM.adr S (i := 3) rfl (by omega) | exact rfl) (by omega) (by first | omega | omega)) ?_; clear H a; intro a H
                refine still_does H rfl (does_load one_3 rfl (by first | exact ownM.rd S (i := 3) rfl (by omega) (by omega) | exact rowsM.rd S (i := 0) rfl (by omega) (by omega) | exact boxM.rd S (i := 0) rfl rfl | exact boxM.rd S (i := 1) rfl rfl | exact boxM.rd S (i := 2) rfl rfl | exact boxM.rd S (i := 3) rfl rfl)) ?_; clear H a; intro a H
                refine still_does H rfl (does_add rfl rfl (by unfold i64ok; omega)) ?_; clear H a; intro a H
                refine still_does H rfl (does_min rfl rfl) ?_; clear H a; intro a H
                refine still_does H rfl (by first | exact does_indexN sl_29 sz_3 rfl rfl (by first | exact ownM.adr S (i := 3) rfl (by omega) | exact rfl) (by first | omega | omega) | exact does_index sl_29 sz_3 rfl rfl (by first | exact ownM.adr S (i := 3) rfl (by omega) | exact rfl) (by omega) (by first | omega | omega)) ?_; clear H a; intro a H
                refine wpStill_nil ?_
                first | (refine list_store_row H S (i := 0) rfl rfl rfl (by omega) (by omega) sz_3 ?_)
                clear H a S; intro _ a S H
                replace S := rowsM.congr S (i := 0) (M' := stg (arcs M i j lo hi k) (xa i j k) (xb i j k) (xf lo hi k) p (q + 1)) rfl (fun x y hx hy => by rw [stg_new]; exact stg_step _ _ _ _ _ _ _ _) (fun _ _ => rfl) (fun _ _ => rfl)
                refine hK23 _ _ ?_
                replace H := H.keep [0, 11, 12, 13, 14, 28, 29, 48, 49, 53, 54] rfl
                refine one_still ?_
                refine still_does H rfl (does_add rfl rfl (by unfold i64ok; omega)) ?_; clear H a; intro a H
                refine still_does H rfl (does_move rfl) ?_; clear H a; intro a H
                refine wpStill_nil ?_
                exact hK20 (g3 - 1) (q + 1) a _ (by omega) (by omega) (S.sel [0, 1, 2, 3] rfl rfl) (H.keep [54, 0, 11, 12, 13, 14, 28, 29, 48, 49, 53] rfl)
              · try simp only [Bool.or_eq_true, Bool.and_eq_true, Bool.not_eq_true', Bool.or_eq_false_iff, Bool.and_eq_false_iff, Bool.not_eq_false', decide_eq_true_eq, decide_eq_false_iff_not, Int.not_lt, Int.not_le] at hc4
                refine wp_exit ?_
                refine hK17 _ _ ?_
                replace H := H.keep [0, 11, 12, 13, 28, 29, 48, 49] rfl
                refine one_still ?_
                refine still_does H rfl (does_add rfl rfl (by unfold i64ok; omega)) ?_; clear H a; intro a H
                refine still_does H rfl (does_move rfl) ?_; clear H a; intro a H
                refine wpStill_nil ?_
                replace S := rowsM.congr S (i := 0) (M' := stg (arcs M i j lo hi k) (xa i j k) (xb i j k) (xf lo hi k) (p + 1) 0) rfl (fun x y hx hy => by rw [show q = n by omega]; exact stg_row _ _ _ _ _ _ _ _ hy) (fun _ _ => rfl) (fun _ _ => rfl)
                exact hK14 (g2 - 1) (p + 1) a _ (by omega) (by omega) (S.sel [0, 1, 2, 3] rfl rfl) (H.keep [49, 0, 11, 12, 13, 28, 29, 48] rfl)
          · try simp only [Bool.or_eq_true, Bool.and_eq_true, Bool.not_eq_true', Bool.or_eq_false_iff, Bool.and_eq_false_iff, Bool.not_eq_false', decide_eq_true_eq, decide_eq_false_iff_not, Int.not_lt, Int.not_le] at hc3
            refine wp_exit ?_
            refine hK7 _ _ ?_
            replace H := H.keep [0, 28, 29] rfl
            refine one_still ?_
            refine still_does H rfl (does_add rfl rfl (by unfold i64ok; omega)) ?_; clear H a; intro a H
            refine still_does H rfl (does_move rfl) ?_; clear H a; intro a H
            refine wpStill_nil ?_
            replace S := rowsM.congr S (i := 0) (M' := arcs M i j lo hi (k + 1)) rfl (fun x y hx hy => by rw [arcs_succ _ _ _ _ _ _ (by omega)]; unfold arc; first | rw [if_pos (by omega)] | (rw [if_neg (by omega)]; rw [show p = n by omega]; exact stg_all _ _ _ _ _ _ _ hx)) (fun _ _ => rfl) (fun _ _ => rfl)
            exact hK4 (g1 - 1) (k + 1) a _ (by omega) (by omega) (S.sel [0, 2, 3] rfl rfl) (H.keep [29, 0, 28] rfl)
    · try simp only [Bool.or_eq_true, Bool.and_eq_true, Bool.not_eq_true', Bool.or_eq_false_iff, Bool.and_eq_false_iff, Bool.not_eq_false', decide_eq_true_eq, decide_eq_false_iff_not, Int.not_lt, Int.not_le] at hc1
      refine wp_exit ?_
      refine hK2 _ _ ?_
      refine wp_seq_k (fun K29 hK29 => ?_)
      replace H := H.keep [0] rfl
      refine seq_still (fun K30 hK30 => ?_)
      refine still_does H rfl (does_move rfl) ?_; clear H a; intro a H
      refine still_does H rfl (does_len sl_94 rfl) ?_; clear H a; intro a H
      refine still_does H rfl (does_move rfl) ?_; clear H a; intro a H
      refine wpStill_nil (hK30 _ ?_)
      clear hK30 K30
      refine wp_block ?_
      replace S := rowsM.congr S (i := 0) (M' := tightM M i j lo hi) rfl (fun x y hx hy => by rw [show k = 2 by omega]; rfl) (fun _ _ => rfl) (fun _ _ => rfl)
      refine loop_st (X := Nat) (R0 := _) [0, 92] H rfl (fun r => [(93, .int .i64 (r : Int))]) (fun r => []) (fun g r => r ≤ n ∧ g + r = n ∧ (List.range r).all (fun q => decide (0 ≤ (tightM M i j lo hi) q q)) = true) (n) 0 ?_ (S.sel [0, 1, 2] rfl rfl) (H.keep [93, 0, 92] rfl) ?_
      · exact ⟨by omega, by omega, rfl⟩
      · intro g4 x4 a w4 hp S H K31 hK31
        obtain ⟨r, rfl⟩ : ∃ y, y = x4 := ⟨_, rfl⟩
        skip
        replace H := H.keep [0, 92, 93] rfl
        refine seq_still (fun K32 hK32 => ?_)
        refine still_does H rfl (does_lss rfl rfl) ?_; clear H a; intro a H
        refine wpStill_nil (hK32 _ ?_)
        clear hK32 K32
        refine wp_seq_k (fun K33 hK33 => ?_)
        refine cond_ H rfl (fun hc5 => ?_) (fun hc5 => ?_)
        · try simp only [Bool.or_eq_true, Bool.and_eq_true, Bool.not_eq_true', Bool.or_eq_false_iff, Bool.and_eq_false_iff, Bool.not_eq_false', decide_eq_true_eq, decide_eq_false_iff_not, Int.not_lt, Int.not_le] at hc5
          refine wp_skip ?_
          refine hK33 _ _ ?_
          refine wp_seq_k (fun K34 hK34 => ?_)
          refine wp_block ?_
          replace H := H.keep [0, 92, 93] rfl
          refine seq_still (fun K35 hK35 => ?_)
          refine still_does H rfl (does_move rfl) ?_; clear H a; intro a H
          refine still_does H rfl (does_assign rfl) ?_; clear H a; intro a H
          refine wpStill_nil (hK35 _ ?_)
          clear hK35 K35
          replace H := H.keep [0, 16, 92, 93] rfl
          refine seq_still (fun K36 hK36 => ?_)
          refine still_does H rfl (does_move rfl) ?_; clear H a; intro a H
          refine still_does H rfl (does_move rfl) ?_; clear H a; intro a H
          refine still_does H rfl (by first | exact does_indexN sl_94 sz_29 rfl rfl (by first | exact ownM.adr S (i := 2) rfl (by omega) | exact rfl) (by first | omega | omega) | exact does_index sl_94 sz_29 rfl rfl (by first | exact ownM.adr S (i := 2) rfl (by omega) | exact rfl) (by omega) (by first | omega | omega)) ?_; clear H a; intro a H
          refine still_does H rfl (does_load one_29 rfl (by first | exact ownM.rd S (i := 2) rfl (by omega) (by omega) | exact rowsM.rd S (i := 0) rfl (by omega) (by omega) | exact boxM.rd S (i := 0) rfl rfl | exact boxM.rd S (i := 1) rfl rfl | exact boxM.rd S (i := 2) rfl rfl)) ?_; clear H a; intro a H
          refine still_does H rfl (does_move rfl) ?_; clear H a; intro a H
          refine still_does H rfl (by first | exact does_indexN sl_29 sz_3 rfl rfl (by first | exact ownM.adr S (i := 2) rfl (by omega) | exact rfl) (by first | omega | omega) | exact does_index sl_29 sz_3 rfl rfl (by first | exact ownM.adr S (i := 2) rfl (by omega) | exact rfl) (by omega) (by first | omega | omega)) ?_; clear H a; intro a H
          refine still_does H rfl (does_load one_3 rfl (by first | exact ownM.rd S (i := 2) rfl (by omega) (by omega) | exact rowsM.rd S (i := 0) rfl (by omega) (by omega) | exact boxM.rd S (i := 0) rfl rfl | exact boxM.rd S (i := 1) rfl rfl | exact boxM.rd S (i := 2) rfl rfl)) ?_; clear H a; intro a H
          refine still_does H rfl (does_lss rfl rfl) ?_; clear H a; intro a H
          refine wpStill_nil (hK36 _ ?_)
          clear hK36 K36
          refine cond_ H rfl (fun hc6 => ?_) (fun hc6 => ?_)
          · try simp only [Bool.or_eq_true, Bool.and_eq_true, Bool.not_eq_true', Bool.or_eq_false_iff, Bool.and_eq_false_iff, Bool.not_eq_false', decide_eq_true_eq, decide_eq_false_iff_not, Int.not_lt, Int.not_le] at hc6
            replace H := H.keep [] rfl
            refine seq_still (fun K37 hK37 => ?_)
            refine still_does H rfl (does_assign rfl) ?_; clear H a; intro a H
            refine wpStill_nil (hK37 _ ?_)
            clear hK37 K37
            refine wp_ret ?_
            refine ret1 (fn := Try.f64) rfl H rfl ?_
            exact ⟨by unfold diagB; rw [range_all_false (k := r) (by omega) (by simp only [decide_eq_false_iff_not]; omega)], (S.sel [2, 0] rfl rfl)⟩
          · try simp only [Bool.or_eq_true, Bool.and_eq_true, Bool.not_eq_true', Bool.or_eq_false_iff, Bool.and_eq_false_iff, Bool.not_eq_false', decide_eq_true_eq, decide_eq_false_iff_not, Int.not_lt, Int.not_le] at hc6
            refine wp_skip ?_
            refine hK34 _ _ ?_
            replace H := H.keep [0, 92, 93] rfl
            refine one_still ?_
            refine still_does H rfl (does_add rfl rfl (by unfold i64ok; omega)) ?_; clear H a; intro a H
            refine still_does H rfl (does_move rfl) ?_; clear H a; intro a H
            refine wpStill_nil ?_
            exact hK31 (g4 - 1) (r + 1) a _ (by omega) (⟨by omega, by omega, by rw [range_all_succ (n := 0), hp.2.2]; simp only [Bool.true_and, decide_eq_true_eq]; omega⟩) (S.sel [0, 1, 2] rfl rfl) (H.keep [93, 0, 92] rfl)
        · try simp only [Bool.or_eq_true, Bool.and_eq_true, Bool.not_eq_true', Bool.or_eq_false_iff, Bool.and_eq_false_iff, Bool.not_eq_false', decide_eq_true_eq, decide_eq_false_iff_not, Int.not_lt, Int.not_le] at hc5
          refine wp_exit ?_
          refine hK29 _ _ ?_
          replace H := H.keep [] rfl
          refine seq_still (fun K39 hK39 => ?_)
          refine still_does H rfl (does_assign rfl) ?_; clear H a; intro a H
          refine wpStill_nil (hK39 _ ?_)
          clear hK39 K39
          refine wp_ret ?_
          refine ret1 (fn := Try.f64) rfl H rfl ?_
          exact ⟨(by unfold diagB; rw [← (by omega : r = n), hp.2.2]), (S.sel [2, 0] rfl rfl)⟩

end Go.Proofs.Ytlejjfhgfajoiaa
