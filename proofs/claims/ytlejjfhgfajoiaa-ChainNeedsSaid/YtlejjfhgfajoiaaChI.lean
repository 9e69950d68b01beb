/- ChI. Printed by gen.py. -/
import Derived.Test.YtlejjfhgfajoiaaChH
namespace Go.Proofs.Ytlejjfhgfajoiaa
open Go.RowKit
set_option linter.unusedVariables false
set_option linter.unusedSimpArgs false


/-- What the making of a net leaves. -/
def Built (w : World) (n : Nat) (o : Option IM) (v : Value) (w' : World) : Prop := match o with
  | some M => ∃ W cw rb rc, v = .tuple #[.slice W n cw, .bool true] ∧ St w noF [ownM 29 1 W n cw (fun i _ => rowv rb rc n i), rowsM 3 n n rb rc (M)] w'
  | none => ∃ W cw, v = .tuple #[.slice W n cw, .bool false] ∧ St w noF [] w'


set_option maxRecDepth 100000 in
set_option maxHeartbeats 4000000 in
theorem ref_build (m : Nat) (pitch limit : Int) (l : List Gauge) (A : Option Addr) (cp : Nat) (w : World) (hc : chainOk (⟨(m : Int), pitch, limit⟩ : Chain) = true) (hlen : l.length ≤ 1000000) (hg : l.all (gaugeOk m) = true) (hl : InS w noF 4 A l.length (gcell l)) :
    Calls Try.prog 68 [.agg [.int .i64 (m : Int), .int .i64 pitch, .int .i64 limit].toArray, .slice A l.length cp].toArray w (Ret (Built w (m + 1) (buildO (⟨(m : Int), pitch, limit⟩ : Chain) l))) := by
  have hc0 := hc
  unfold chainOk at hc; simp only [decide_eq_true_eq] at hc
  refine enter Try.func68 rfl Try.ntmps68 rfl (fun a H => ?_)
  have S := St.start w
  refine seq_list (fun K1 hK1 => ?_)
  refine list_box H rfl S rfl rfl ?_; clear H a S; intro b2 _ a hb2 hbw2 S H
  refine list_does H rfl (does_assign rfl) ?_; clear H a; intro a H
  refine list_does H rfl (does_assign rfl) ?_; clear H a; intro a H
  refine hK1 _ _ ?_
  clear hK1 K1
  replace H := H.keep [1, 2] rfl
  refine seq_still (fun K2 hK2 => ?_)
  refine still_does H rfl (does_assign rfl) ?_; clear H a; intro a H
  refine wpStill_nil (hK2 _ ?_)
  clear hK2 K2
  refine wp_seq_k (fun K3 hK3 => ?_)
  replace H := H.keep [1, 2, 6] rfl
  refine seq_still (fun K4 hK4 => ?_)
  refine still_does H rfl (does_assign rfl) ?_; clear H a; intro a H
  refine wpStill_nil (hK4 _ ?_)
  clear hK4 K4
  refine wp_block ?_
  replace S := rowsM.zero S 3 (m + 1) (fun _ => 0) (fun _ => 0) M0
  replace S := S.newNil 29 1 (fun i _ => rowv (fun _ => 0) (fun _ => 0) (m + 1) i)
  refine loop_st (X := Nat × Option Addr × Nat × (Nat → Nat) × (Nat → Nat)) (R0 := _) [1, 2] H rfl (fun ⟨k, W, cw, rb, rc⟩ => [(6, .slice W k cw), (7, .int .i64 (k : Int))]) (fun ⟨k, W, cw, rb, rc⟩ => [ownM 29 1 W k cw (fun i _ => rowv rb rc (m + 1) i), rowsM 3 k (m + 1) rb rc M0]) (fun g ⟨k, W, cw, rb, rc⟩ => k ≤ m + 1 ∧ g + k = m + 1) (m + 1) (0, none, 0, (fun _ => 0), (fun _ => 0)) ?_ (S.sel [0, 1, 2] rfl rfl) (H.keep [6, 7, 1, 2] rfl) ?_
  · exact ⟨by omega, by omega⟩
  · intro g1 x1 a w1 hp S H K5 hK5
    obtain ⟨k, W, cw, rb, rc⟩ := x1
    dsimp only at hp S H
    refine wp_seq_k (fun K6 hK6 => ?_)
    replace H := H.keep [1, 2, 6, 7] rfl
    refine seq_still (fun K7 hK7 => ?_)
    refine still_does H rfl (does_move rfl) ?_; clear H a; intro a H
    refine still_does H rfl (by first | exact does_field_pt fo_23_0 rfl | exact does_field fo_23_0 rfl) ?_; clear H a; intro a H
    refine still_does H rfl (does_load one_3 rfl (by first | exact ownM.rd S (i := 0) rfl (by omega) (by omega) | exact rowsM.rd S (i := 1) rfl (by omega) (by omega) | exact boxM.rd S (i := 0) rfl rfl | exact boxM.rd S (i := 1) rfl rfl | exact boxM.rd S (i := 2) rfl rfl)) ?_; clear H a; intro a H
    refine still_does H rfl (does_leq rfl rfl) ?_; clear H a; intro a H
    refine wpStill_nil (hK7 _ ?_)
    clear hK7 K7
    refine cond_ H rfl (fun hc1 => ?_) (fun hc1 => ?_)
    · try simp only [Bool.or_eq_true, Bool.and_eq_true, Bool.not_eq_true', Bool.or_eq_false_iff, Bool.and_eq_false_iff, Bool.not_eq_false', decide_eq_true_eq, decide_eq_false_iff_not, Int.not_lt, Int.not_le] at hc1
      refine wp_skip ?_
      refine hK6 _ _ ?_
      refine wp_seq_k (fun K8 hK8 => ?_)
      refine wp_block ?_
      replace H := H.keep [1, 2, 6, 7] rfl
      refine seq_still (fun K9 hK9 => ?_)
      refine still_does H rfl (does_assign rfl) ?_; clear H a; intro a H
      refine wpStill_nil (hK9 _ ?_)
      clear hK9 K9
      refine wp_seq_k (fun K10 hK10 => ?_)
      replace H := H.keep [1, 2, 6, 7, 8] rfl
      refine seq_still (fun K11 hK11 => ?_)
      refine still_does H rfl (does_assign rfl) ?_; clear H a; intro a H
      refine wpStill_nil (hK11 _ ?_)
      clear hK11 K11
      refine wp_block ?_
      replace S := S.newNil 3 1 (fun q _ => .int .i64 (M0 k q))
      refine loop_st (X := Nat × Option Addr × Nat) (R0 := _) [1, 2, 6, 7] H rfl (fun ⟨j, A', c'⟩ => [(8, .slice A' j c'), (9, .int .i64 (j : Int))]) (fun ⟨j, A', c'⟩ => [ownM 3 1 A' j c' (fun q _ => .int .i64 (M0 k q))]) (fun g ⟨j, A', c'⟩ => j ≤ m + 1 ∧ g + j = m + 1) (m + 1) (0, none, 0) ?_ (S.sel [0, 1, 2, 3] rfl rfl) (H.keep [8, 9, 1, 2, 6, 7] rfl) ?_
      · exact ⟨by omega, by omega⟩
      · intro g2 x2 a w2 hp S H K12 hK12
        obtain ⟨j, A', c'⟩ := x2
        dsimp only at hp S H
        refine wp_seq_k (fun K13 hK13 => ?_)
        replace H := H.keep [1, 2, 6, 7, 8, 9] rfl
        refine seq_still (fun K14 hK14 => ?_)
        refine still_does H rfl (does_move rfl) ?_; clear H a; intro a H
        refine still_does H rfl (by first | exact does_field_pt fo_23_0 rfl | exact does_field fo_23_0 rfl) ?_; clear H a; intro a H
        refine still_does H rfl (does_load one_3 rfl (by first | exact ownM.rd S (i := 1) rfl (by omega) (by omega) | exact rowsM.rd S (i := 2) rfl (by omega) (by omega) | exact boxM.rd S (i := 0) rfl rfl | exact boxM.rd S (i := 1) rfl rfl | exact boxM.rd S (i := 2) rfl rfl | exact boxM.rd S (i := 3) rfl rfl)) ?_; clear H a; intro a H
        refine still_does H rfl (does_leq rfl rfl) ?_; clear H a; intro a H
        refine wpStill_nil (hK14 _ ?_)
        clear hK14 K14
        refine cond_ H rfl (fun hc2 => ?_) (fun hc2 => ?_)
        · try simp only [Bool.or_eq_true, Bool.and_eq_true, Bool.not_eq_true', Bool.or_eq_false_iff, Bool.and_eq_false_iff, Bool.not_eq_false', decide_eq_true_eq, decide_eq_false_iff_not, Int.not_lt, Int.not_le] at hc2
          refine wp_skip ?_
          refine hK13 _ _ ?_
          refine wp_seq_k (fun K15 hK15 => ?_)
          refine wp_block ?_
          replace H := H.keep [1, 2, 6, 7, 8, 9] rfl
          refine seq_still (fun K16 hK16 => ?_)
          refine still_does H rfl (does_move rfl) ?_; clear H a; intro a H
          refine still_does H rfl (does_move rfl) ?_; clear H a; intro a H
          refine still_does H rfl (does_eql rfl rfl) ?_; clear H a; intro a H
          refine wpStill_nil (hK16 _ ?_)
          clear hK16 K16
          refine cond_ H rfl (fun hc3 => ?_) (fun hc3 => ?_)
          · try simp only [Bool.or_eq_true, Bool.and_eq_true, Bool.not_eq_true', Bool.or_eq_false_iff, Bool.and_eq_false_iff, Bool.not_eq_false', decide_eq_true_eq, decide_eq_false_iff_not, Int.not_lt, Int.not_le] at hc3
            replace H := H.keep [1, 2, 6, 7, 8, 9] rfl
            refine one_list ?_
            refine list_does H rfl (does_move rfl) ?_; clear H a; intro a H
            refine list_build' H rfl S sl_29 sz_3 ze_3 rfl rfl rfl rfl rfl rfl rfl rfl rfl ?_; clear H a S; intro A1 _ a hA1 S H
            refine list_append H rfl S sl_29 sz_3 ze_3 by_3 rfl rfl (i := 1) rfl rfl rfl (ownM.inS S (i := 0) rfl) (one_vs (one rfl)) (by omega) (by omega) ?_; clear H a S; intro A2 c2 _ a S H
            replace S := S.recell (i := 1) rfl (capp_one (one (show Value.int .i64 0 = .int .i64 (M0 k j) from by unfold M0; rw [if_pos (by omega)])))
            refine list_does H rfl (does_assign rfl) ?_; clear H a; intro a H
            refine hK15 _ _ ?_
            replace H := H.keep [1, 2, 6, 7, 8, 9] rfl
            refine one_still ?_
            refine still_does H rfl (does_move rfl) ?_; clear H a; intro a H
            refine still_does H rfl (does_add rfl rfl (by unfold i64ok; omega)) ?_; clear H a; intro a H
            refine still_does H rfl (does_assign rfl) ?_; clear H a; intro a H
            refine wpStill_nil ?_
            exact hK12 (g2 - 1) (j + 1, _, _) a _ (by omega) (by omega) (S.sel [1, 2, 3, 4] rfl rfl) (H.keep [8, 9, 1, 2, 6, 7] rfl)
          · try simp only [Bool.or_eq_true, Bool.and_eq_true, Bool.not_eq_true', Bool.or_eq_false_iff, Bool.and_eq_false_iff, Bool.not_eq_false', decide_eq_true_eq, decide_eq_false_iff_not, Int.not_lt, Int.not_le] at hc3
            replace H := H.keep [1, 2, 6, 7, 8, 9] rfl
            refine one_list ?_
            refine list_does H rfl (does_move rfl) ?_; clear H a; intro a H
            refine list_build' H rfl S sl_29 sz_3 ze_3 rfl rfl rfl rfl rfl rfl rfl rfl rfl ?_; clear H a S; intro A3 _ a hA3 S H
            refine list_append H rfl S sl_29 sz_3 ze_3 by_3 rfl rfl (i := 1) rfl rfl rfl (ownM.inS S (i := 0) rfl) (one_vs (one rfl)) (by omega) (by omega) ?_; clear H a S; intro A4 c4 _ a S H
            replace S := S.recell (i := 1) rfl (capp_one (one (show Value.int .i64 1099511627776 = .int .i64 (M0 k j) from by unfold M0; rw [if_neg (by omega)]; rfl)))
            refine list_does H rfl (does_assign rfl) ?_; clear H a; intro a H
            refine hK15 _ _ ?_
            replace H := H.keep [1, 2, 6, 7, 8, 9] rfl
            refine one_still ?_
            refine still_does H rfl (does_move rfl) ?_; clear H a; intro a H
            refine still_does H rfl (does_add rfl rfl (by unfold i64ok; omega)) ?_; clear H a; intro a H
            refine still_does H rfl (does_assign rfl) ?_; clear H a; intro a H
            refine wpStill_nil ?_
            exact hK12 (g2 - 1) (j + 1, _, _) a _ (by omega) (by omega) (S.sel [1, 2, 3, 4] rfl rfl) (H.keep [8, 9, 1, 2, 6, 7] rfl)
        · try simp only [Bool.or_eq_true, Bool.and_eq_true, Bool.not_eq_true', Bool.or_eq_false_iff, Bool.and_eq_false_iff, Bool.not_eq_false', decide_eq_true_eq, decide_eq_false_iff_not, Int.not_lt, Int.not_le] at hc2
          refine wp_exit ?_
          refine hK10 _ _ ?_
          have hj9 : m + 1 = j := by omega
          subst hj9
          obtain ⟨b, rfl⟩ := ownM.some' S (i := 0) rfl (by omega)
          replace H := H.keep [1, 2, 6, 7, 8] rfl
          refine one_list ?_
          refine list_does H rfl (does_move rfl) ?_; clear H a; intro a H
          refine list_does H rfl (does_move rfl) ?_; clear H a; intro a H
          refine list_build' H rfl S sl_101 sz_29 ze_29 rfl rfl rfl rfl rfl rfl rfl rfl rfl ?_; clear H a S; intro A5 _ a hA5 S H
          refine list_append H rfl S sl_101 sz_29 ze_29 by_29 rfl rfl (i := 2) rfl rfl rfl (ownM.inS S (i := 0) rfl) (one_vs (one rfl)) (by omega) (by omega) ?_; clear H a S; intro A6 c6 _ a S H
          replace S := (S.sel [1, 3, 2, 4] rfl rfl)
          obtain ⟨b', hb', S3⟩ := rowsM.add S (by intro h; cases h) (f := M0 k) (fun j hj => rfl)
          cases hb'
          replace S := rowsM.congr S3 (i := 0) (M' := M0) rfl (fun x y hx hy => by unfold mrow; split <;> simp [*]) (fun _ _ => rfl) (fun _ _ => rfl)
          clear S3
          have S := S.recell (i := 1) rfl (cell' := fun i _ => rowv (updN rb k b) (updN rc k c') (m + 1) i) (fun k' j hk hj => by
            unfold capp rowv updN; (try dsimp only)
            by_cases h1 : k' < k
            · rw [if_pos h1, if_neg (by omega), if_neg (by omega)]
            · have h2 : k' = k := by omega
              subst h2; rw [if_neg h1, if_pos rfl, if_pos rfl, Nat.sub_self]
              have h3 : j = 0 := by omega
              subst h3; rfl)
          refine list_does H rfl (does_assign rfl) ?_; clear H a; intro a H
          refine hK8 _ _ ?_
          replace H := H.keep [1, 2, 6, 7] rfl
          refine one_still ?_
          refine still_does H rfl (does_move rfl) ?_; clear H a; intro a H
          refine still_does H rfl (does_add rfl rfl (by unfold i64ok; omega)) ?_; clear H a; intro a H
          refine still_does H rfl (does_assign rfl) ?_; clear H a; intro a H
          refine wpStill_nil ?_
          exact hK5 (g1 - 1) (k + 1, _, _, updN rb k b, updN rc k c') a _ (by omega) (by omega) (S.sel [1, 0, 2] rfl rfl) (H.keep [6, 7, 1, 2] rfl)
    · try simp only [Bool.or_eq_true, Bool.and_eq_true, Bool.not_eq_true', Bool.or_eq_false_iff, Bool.and_eq_false_iff, Bool.not_eq_false', decide_eq_true_eq, decide_eq_false_iff_not, Int.not_lt, Int.not_le] at hc1
      refine wp_exit ?_
      refine hK3 _ _ ?_
      refine wp_seq_k (fun K23 hK23 => ?_)
      replace H := H.keep [1, 2, 6] rfl
      refine seq_still (fun K24 hK24 => ?_)
      refine still_does H rfl (does_assign rfl) ?_; clear H a; intro a H
      refine wpStill_nil (hK24 _ ?_)
      clear hK24 K24
      refine wp_block ?_
      have hk9 : m + 1 = k := by omega
      subst hk9
      replace S := rowsM.congr S (i := 1) (M' := linkR (⟨(m : Int), pitch, limit⟩ : Chain) 0) rfl (fun x y hx hy => by unfold linkR; rw [if_neg (by omega), if_neg (by omega)]) (fun _ _ => rfl) (fun _ _ => rfl)
      refine loop_st (X := Nat) (R0 := _) [1, 2, 6] H rfl (fun i => [(10, .int .i64 (i : Int))]) (fun i => [rowsM 3 (m + 1) (m + 1) rb rc (linkR (⟨(m : Int), pitch, limit⟩ : Chain) i)]) (fun g i => i ≤ m ∧ g + i = m) (m) 0 ?_ (S.sel [1, 0, 2] rfl rfl) (H.keep [10, 1, 2, 6] rfl) ?_
      · exact ⟨by omega, by omega⟩
      · intro g3 x3 a w3 hp S H K25 hK25
        obtain ⟨i, rfl⟩ : ∃ y, y = x3 := ⟨_, rfl⟩
        skip
        refine wp_seq_k (fun K26 hK26 => ?_)
        replace H := H.keep [1, 2, 6, 10] rfl
        refine seq_still (fun K27 hK27 => ?_)
        refine still_does H rfl (does_move rfl) ?_; clear H a; intro a H
        refine still_does H rfl (by first | exact does_field_pt fo_23_0 rfl | exact does_field fo_23_0 rfl) ?_; clear H a; intro a H
        refine still_does H rfl (does_load one_3 rfl (by first | exact ownM.rd S (i := 1) rfl (by omega) (by omega) | exact rowsM.rd S (i := 0) rfl (by omega) (by omega) | exact boxM.rd S (i := 0) rfl rfl | exact boxM.rd S (i := 1) rfl rfl | exact boxM.rd S (i := 2) rfl rfl)) ?_; clear H a; intro a H
        refine still_does H rfl (does_lss rfl rfl) ?_; clear H a; intro a H
        refine wpStill_nil (hK27 _ ?_)
        clear hK27 K27
        refine cond_ H rfl (fun hc4 => ?_) (fun hc4 => ?_)
        · try simp only [Bool.or_eq_true, Bool.and_eq_true, Bool.not_eq_true', Bool.or_eq_false_iff, Bool.and_eq_false_iff, Bool.not_eq_false', decide_eq_true_eq, decide_eq_false_iff_not, Int.not_lt, Int.not_le] at hc4
          refine wp_skip ?_
          refine hK26 _ _ ?_
          refine wp_seq_k (fun K28 hK28 => ?_)
          refine wp_block ?_
          replace H := H.keep [1, 2, 6, 10] rfl
          refine seq_tail 9 (by kernel_rfl) (by kernel_rfl) (fun K29 hK29 => ?_)
          replace S := S.drew
          refine still_does H rfl (does_move rfl) ?_; clear H a; intro a H
          refine still_does H rfl (does_move rfl) ?_; clear H a; intro a H
          refine still_does H rfl (by first | exact does_indexN sl_101 sz_29 rfl rfl (by first | exact hl.adr (by omega) | exact ownM.adr S (i := 1) rfl (by omega) | exact rfl) (by first | omega | omega) | exact does_index sl_101 sz_29 rfl rfl (by first | exact hl.adr (by omega) | exact ownM.adr S (i := 1) rfl (by omega) | exact rfl) (by omega) (by first | omega | omega)) ?_; clear H a; intro a H
          refine still_does H rfl (does_load one_29 rfl (by first | exact ownM.rd S (i := 1) rfl (by omega) (by omega) | exact rowsM.rd S (i := 0) rfl (by omega) (by omega) | exact boxM.rd S (i := 0) rfl rfl | exact boxM.rd S (i := 1) rfl rfl | exact boxM.rd S (i := 2) rfl rfl)) ?_; clear H a; intro a H
          refine still_does H rfl (does_move rfl) ?_; clear H a; intro a H
          refine still_does H rfl (does_add rfl rfl (by unfold i64ok; omega)) ?_; clear H a; intro a H
          refine still_does H rfl (by first | exact does_field_pt fo_23_2 rfl | exact does_field fo_23_2 rfl) ?_; clear H a; intro a H
          refine still_does H rfl (does_load one_3 rfl (by first | exact ownM.rd S (i := 1) rfl (by omega) (by omega) | exact rowsM.rd S (i := 0) rfl (by omega) (by omega) | exact boxM.rd S (i := 0) rfl rfl | exact boxM.rd S (i := 1) rfl rfl | exact boxM.rd S (i := 2) rfl rfl)) ?_; clear H a; intro a H
          refine still_does H rfl (by first | exact does_indexN sl_29 sz_3 rfl rfl (by first | exact hl.adr (by omega) | exact ownM.adr S (i := 1) rfl (by omega) | exact rfl) (by first | omega | omega) | exact does_index sl_29 sz_3 rfl rfl (by first | exact hl.adr (by omega) | exact ownM.adr S (i := 1) rfl (by omega) | exact rfl) (by omega) (by first | omega | omega)) ?_; clear H a; intro a H
          refine wpStill_nil ?_
          first | (refine list_store_row H S (i := 0) (p := i) (q := i + 1) rfl rfl rfl (by omega) (by omega) sz_3 ?_)
          clear H a S; intro _ a S H
          refine hK29 _ _ ?_
          clear hK29 K29
          replace H := H.keep [1, 2, 6, 10] rfl
          refine one_tail 10 (by kernel_rfl) (by kernel_rfl) ?_
          replace S := S.drew
          refine still_does H rfl (does_move rfl) ?_; clear H a; intro a H
          refine still_does H rfl (does_move rfl) ?_; clear H a; intro a H
          refine still_does H rfl (does_add rfl rfl (by unfold i64ok; omega)) ?_; clear H a; intro a H
          refine still_does H rfl (by first | exact does_indexN sl_101 sz_29 rfl rfl (by first | exact hl.adr (by omega) | exact ownM.adr S (i := 1) rfl (by omega) | exact rfl) (by first | omega | omega) | exact does_index sl_101 sz_29 rfl rfl (by first | exact hl.adr (by omega) | exact ownM.adr S (i := 1) rfl (by omega) | exact rfl) (by omega) (by first | omega | omega)) ?_; clear H a; intro a H
          refine still_does H rfl (does_load one_29 rfl (by first | exact ownM.rd S (i := 1) rfl (by omega) (by omega) | exact rowsM.rd S (i := 0) rfl (by omega) (by omega) | exact boxM.rd S (i := 0) rfl rfl | exact boxM.rd S (i := 1) rfl rfl | exact boxM.rd S (i := 2) rfl rfl)) ?_; clear H a; intro a H
          refine still_does H rfl (does_move rfl) ?_; clear H a; intro a H
          refine still_does H rfl (by first | exact does_field_pt fo_23_1 rfl | exact does_field fo_23_1 rfl) ?_; clear H a; intro a H
          refine still_does H rfl (does_load one_3 rfl (by first | exact ownM.rd S (i := 1) rfl (by omega) (by omega) | exact rowsM.rd S (i := 0) rfl (by omega) (by omega) | exact boxM.rd S (i := 0) rfl rfl | exact boxM.rd S (i := 1) rfl rfl | exact boxM.rd S (i := 2) rfl rfl)) ?_; clear H a; intro a H
          refine still_does H rfl (does_neg rfl (by unfold i64ok; omega)) ?_; clear H a; intro a H
          refine still_does H rfl (by first | exact does_indexN sl_29 sz_3 rfl rfl (by first | exact hl.adr (by omega) | exact ownM.adr S (i := 1) rfl (by omega) | exact rfl) (by first | omega | omega) | exact does_index sl_29 sz_3 rfl rfl (by first | exact hl.adr (by omega) | exact ownM.adr S (i := 1) rfl (by omega) | exact rfl) (by omega) (by first | omega | omega)) ?_; clear H a; intro a H
          refine wpStill_nil ?_
          first | (refine list_store_row H S (i := 0) (p := i + 1) (q := i) rfl rfl rfl (by omega) (by omega) sz_3 ?_)
          clear H a S; intro _ a S H
          replace S := rowsM.congr S (i := 0) (M' := linkR (⟨(m : Int), pitch, limit⟩ : Chain) (i + 1)) rfl (fun x y hx hy => linkR_step (⟨(m : Int), pitch, limit⟩ : Chain) i x y) (fun _ _ => rfl) (fun _ _ => rfl)
          refine hK28 _ _ ?_
          replace H := H.keep [1, 2, 6, 10] rfl
          refine one_still ?_
          refine still_does H rfl (does_move rfl) ?_; clear H a; intro a H
          refine still_does H rfl (does_add rfl rfl (by unfold i64ok; omega)) ?_; clear H a; intro a H
          refine still_does H rfl (does_assign rfl) ?_; clear H a; intro a H
          refine wpStill_nil ?_
          exact hK25 (g3 - 1) (i + 1) a _ (by omega) (by omega) (S.sel [0, 1, 2] rfl rfl) (H.keep [10, 1, 2, 6] rfl)
        · try simp only [Bool.or_eq_true, Bool.and_eq_true, Bool.not_eq_true', Bool.or_eq_false_iff, Bool.and_eq_false_iff, Bool.not_eq_false', decide_eq_true_eq, decide_eq_false_iff_not, Int.not_lt, Int.not_le] at hc4
          refine wp_exit ?_
          refine hK23 _ _ ?_
          refine wp_seq_k (fun K32 hK32 => ?_)
          replace H := H.keep [1, 2, 6] rfl
          refine seq_still (fun K33 hK33 => ?_)
          refine still_does H rfl (does_assign rfl) ?_; clear H a; intro a H
          refine wpStill_nil (hK33 _ ?_)
          clear hK33 K33
          refine wp_block ?_
          have hi9 : m = i := by omega
          subst hi9
          refine loop_st (X := Nat) (R0 := _) [1, 2, 6] H rfl (fun q => [(11, .int .i64 (q : Int))]) (fun q => [rowsM 3 (m + 1) (m + 1) rb rc (gaugeR l (linkR (⟨(m : Int), pitch, limit⟩ : Chain) m) q)]) (fun g q => q ≤ l.length ∧ g + q = l.length) (l.length) 0 ?_ (S.sel [0, 1, 2] rfl rfl) (H.keep [11, 1, 2, 6] rfl) ?_
          · exact ⟨by omega, by omega⟩
          · intro g4 x4 a w4 hp S H K34 hK34
            obtain ⟨q, rfl⟩ : ∃ y, y = x4 := ⟨_, rfl⟩
            skip
            refine wp_seq_k (fun K35 hK35 => ?_)
            replace H := H.keep [1, 2, 6, 11] rfl
            refine seq_still (fun K36 hK36 => ?_)
            refine still_does H rfl (does_move rfl) ?_; clear H a; intro a H
            refine still_does H rfl (does_move rfl) ?_; clear H a; intro a H
            refine still_does H rfl (does_len sl_24 rfl) ?_; clear H a; intro a H
            refine still_does H rfl (does_lss rfl rfl) ?_; clear H a; intro a H
            refine wpStill_nil (hK36 _ ?_)
            clear hK36 K36
            refine cond_ H rfl (fun hc5 => ?_) (fun hc5 => ?_)
            · try simp only [Bool.or_eq_true, Bool.and_eq_true, Bool.not_eq_true', Bool.or_eq_false_iff, Bool.and_eq_false_iff, Bool.not_eq_false', decide_eq_true_eq, decide_eq_false_iff_not, Int.not_lt, Int.not_le] at hc5
              refine wp_skip ?_
              refine hK35 _ _ ?_
              refine wp_seq_k (fun K37 hK37 => ?_)
              refine wp_block ?_
              have hgk := getD_ok hg (show q < l.length by omega)
              unfold gaugeOk at hgk; simp only [decide_eq_true_eq] at hgk
              replace H := H.keep [1, 2, 6, 11] rfl
              refine seq_list (fun K38 hK38 => ?_)
              refine list_does H rfl (does_move rfl) ?_; clear H a; intro a H
              refine list_does H rfl (does_move rfl) ?_; clear H a; intro a H
              refine list_does H rfl (by first | exact does_indexN sl_24 sz_48 rfl rfl (by first | exact hl.adr (by omega) | exact ownM.adr S (i := 1) rfl (by omega) | exact rfl) (by first | omega | omega) | exact does_index sl_24 sz_48 rfl rfl (by first | exact hl.adr (by omega) | exact ownM.adr S (i := 1) rfl (by omega) | exact rfl) (by omega) (by first | omega | omega)) ?_; clear H a; intro a H
              refine list_does H rfl (by first | exact does_loadIn agg_48 sz_48 rfl S hl (by omega) (by omega) | exact does_loadBox agg_48 sz_48 rfl S (i := 0) rfl rfl | exact does_loadBox agg_48 sz_48 rfl S (i := 1) rfl rfl | exact does_loadBox agg_48 sz_48 rfl S (i := 2) rfl rfl) ?_; clear H a; intro a H
              refine list_alloc H rfl S ze_48 ?_; clear H a S; intro b12 _ a hb12 hbw12 S H
              first | (refine list_store H S (i := 0) rfl rfl rfl rfl sz_48 rfl rfl ?_) | (refine list_store H S (i := 1) rfl rfl rfl rfl sz_48 rfl rfl ?_) | (refine list_store H S (i := 2) rfl rfl rfl rfl sz_48 rfl rfl ?_) | (refine list_store H S (i := 3) rfl rfl rfl rfl sz_48 rfl rfl ?_) | (refine list_store_own H S (i := 0) rfl rfl rfl (by omega) (by omega) sz_48 rfl ?_) | (refine list_store_own H S (i := 1) rfl rfl rfl (by omega) (by omega) sz_48 rfl ?_) | (refine list_store_own H S (i := 2) rfl rfl rfl (by omega) (by omega) sz_48 rfl ?_) | (refine list_store_own H S (i := 3) rfl rfl rfl (by omega) (by omega) sz_48 rfl ?_)
              clear H a S; intro _ a S H
              refine hK38 _ _ ?_
              clear hK38 K38
              replace H := H.keep [1, 2, 6, 11, 12] rfl
              refine seq_tail 21 (by kernel_rfl) (by kernel_rfl) (fun K39 hK39 => ?_)
              replace S := S.drew
              refine still_does H rfl (does_move rfl) ?_; clear H a; intro a H
              refine still_does H rfl (by first | exact does_field_pt fo_48_0 rfl | exact does_field fo_48_0 rfl) ?_; clear H a; intro a H
              refine still_does H rfl (does_load one_3 rfl (by first | exact ownM.rd S (i := 2) rfl (by omega) (by omega) | exact rowsM.rd S (i := 1) rfl (by omega) (by omega) | exact boxM.rd S (i := 0) rfl rfl | exact boxM.rd S (i := 1) rfl rfl | exact boxM.rd S (i := 2) rfl rfl | exact boxM.rd S (i := 3) rfl rfl)) ?_; clear H a; intro a H
              refine still_does H rfl (by first | exact does_indexN sl_101 sz_29 rfl rfl (by first | exact hl.adr (by omega) | exact ownM.adr S (i := 2) rfl (by omega) | exact rfl) (by first | omega | omega) | exact does_index sl_101 sz_29 rfl rfl (by first | exact hl.adr (by omega) | exact ownM.adr S (i := 2) rfl (by omega) | exact rfl) (by omega) (by first | omega | omega)) ?_; clear H a; intro a H
              refine still_does H rfl (does_load one_29 rfl (by first | exact ownM.rd S (i := 2) rfl (by omega) (by omega) | exact rowsM.rd S (i := 1) rfl (by omega) (by omega) | exact boxM.rd S (i := 0) rfl rfl | exact boxM.rd S (i := 1) rfl rfl | exact boxM.rd S (i := 2) rfl rfl | exact boxM.rd S (i := 3) rfl rfl)) ?_; clear H a; intro a H
              refine still_does H rfl (by first | exact does_field_pt fo_48_1 rfl | exact does_field fo_48_1 rfl) ?_; clear H a; intro a H
              refine still_does H rfl (does_load one_3 rfl (by first | exact ownM.rd S (i := 2) rfl (by omega) (by omega) | exact rowsM.rd S (i := 1) rfl (by omega) (by omega) | exact boxM.rd S (i := 0) rfl rfl | exact boxM.rd S (i := 1) rfl rfl | exact boxM.rd S (i := 2) rfl rfl | exact boxM.rd S (i := 3) rfl rfl)) ?_; clear H a; intro a H
              refine still_does H rfl (does_move rfl) ?_; clear H a; intro a H
              refine still_does H rfl (by first | exact does_field_pt fo_48_0 rfl | exact does_field fo_48_0 rfl) ?_; clear H a; intro a H
              refine still_does H rfl (does_load one_3 rfl (by first | exact ownM.rd S (i := 2) rfl (by omega) (by omega) | exact rowsM.rd S (i := 1) rfl (by omega) (by omega) | exact boxM.rd S (i := 0) rfl rfl | exact boxM.rd S (i := 1) rfl rfl | exact boxM.rd S (i := 2) rfl rfl | exact boxM.rd S (i := 3) rfl rfl)) ?_; clear H a; intro a H
              refine still_does H rfl (by first | exact does_indexN sl_101 sz_29 rfl rfl (by first | exact hl.adr (by omega) | exact ownM.adr S (i := 2) rfl (by omega) | exact rfl) (by first | omega | omega) | exact does_index sl_101 sz_29 rfl rfl (by first | exact hl.adr (by omega) | exact ownM.adr S (i := 2) rfl (by omega) | exact rfl) (by omega) (by first | omega | omega)) ?_; clear H a; intro a H
              refine still_does H rfl (does_load one_29 rfl (by first | exact ownM.rd S (i := 2) rfl (by omega) (by omega) | exact rowsM.rd S (i := 1) rfl (by omega) (by omega) | exact boxM.rd S (i := 0) rfl rfl | exact boxM.rd S (i := 1) rfl rfl | exact boxM.rd S (i := 2) rfl rfl | exact boxM.rd S (i := 3) rfl rfl)) ?_; clear H a; intro a H
              refine still_does H rfl (by first | exact does_field_pt fo_48_1 rfl | exact does_field fo_48_1 rfl) ?_; clear H a; intro a H
              refine still_does H rfl (does_load one_3 rfl (by first | exact ownM.rd S (i := 2) rfl (by omega) (by omega) | exact rowsM.rd S (i := 1) rfl (by omega) (by omega) | exact boxM.rd S (i := 0) rfl rfl | exact boxM.rd S (i := 1) rfl rfl | exact boxM.rd S (i := 2) rfl rfl | exact boxM.rd S (i := 3) rfl rfl)) ?_; clear H a; intro a H
              refine still_does H rfl (by first | exact does_indexN sl_29 sz_3 rfl rfl (by first | exact hl.adr (by omega) | exact ownM.adr S (i := 2) rfl (by omega) | exact rfl) (by first | omega | omega) | exact does_index sl_29 sz_3 rfl rfl (by first | exact hl.adr (by omega) | exact ownM.adr S (i := 2) rfl (by omega) | exact rfl) (by omega) (by first | omega | omega)) ?_; clear H a; intro a H
              refine still_does H rfl (does_load one_3 rfl (by first | exact ownM.rd S (i := 2) rfl (by omega) (by omega) | exact rowsM.rd S (i := 1) rfl (by omega) (by omega) | exact boxM.rd S (i := 0) rfl rfl | exact boxM.rd S (i := 1) rfl rfl | exact boxM.rd S (i := 2) rfl rfl | exact boxM.rd S (i := 3) rfl rfl)) ?_; clear H a; intro a H
              refine still_does H rfl (by first | exact does_field_pt fo_48_2 rfl | exact does_field fo_48_2 rfl) ?_; clear H a; intro a H
              refine still_does H rfl (by first | exact does_field_pt fo_42_1 rfl | exact does_field fo_42_1 rfl) ?_; clear H a; intro a H
              refine still_does H rfl (does_load one_3 rfl (by first | exact ownM.rd S (i := 2) rfl (by omega) (by omega) | exact rowsM.rd S (i := 1) rfl (by omega) (by omega) | exact boxM.rd S (i := 0) rfl rfl | exact boxM.rd S (i := 1) rfl rfl | exact boxM.rd S (i := 2) rfl rfl | exact boxM.rd S (i := 3) rfl rfl)) ?_; clear H a; intro a H
              refine still_does H rfl (does_min rfl rfl) ?_; clear H a; intro a H
              refine still_does H rfl (by first | exact does_indexN sl_29 sz_3 rfl rfl (by first | exact hl.adr (by omega) | exact ownM.adr S (i := 2) rfl (by omega) | exact rfl) (by first | omega | omega) | exact does_index sl_29 sz_3 rfl rfl (by first | exact hl.adr (by omega) | exact ownM.adr S (i := 2) rfl (by omega) | exact rfl) (by omega) (by first | omega | omega)) ?_; clear H a; intro a H
              refine wpStill_nil ?_
              first | (refine list_store_row H S (i := 1) rfl rfl rfl (by omega) (by omega) sz_3 ?_)
              clear H a S; intro _ a S H
              refine hK39 _ _ ?_
              clear hK39 K39
              replace H := H.keep [1, 2, 6, 11, 12] rfl
              refine one_tail 22 (by kernel_rfl) (by kernel_rfl) ?_
              replace S := S.drew
              refine still_does H rfl (does_move rfl) ?_; clear H a; intro a H
              refine still_does H rfl (by first | exact does_field_pt fo_48_1 rfl | exact does_field fo_48_1 rfl) ?_; clear H a; intro a H
              refine still_does H rfl (does_load one_3 rfl (by first | exact ownM.rd S (i := 2) rfl (by omega) (by omega) | exact rowsM.rd S (i := 1) rfl (by omega) (by omega) | exact boxM.rd S (i := 0) rfl rfl | exact boxM.rd S (i := 1) rfl rfl | exact boxM.rd S (i := 2) rfl rfl | exact boxM.rd S (i := 3) rfl rfl)) ?_; clear H a; intro a H
              refine still_does H rfl (by first | exact does_indexN sl_101 sz_29 rfl rfl (by first | exact hl.adr (by omega) | exact ownM.adr S (i := 2) rfl (by omega) | exact rfl) (by first | omega | omega) | exact does_index sl_101 sz_29 rfl rfl (by first | exact hl.adr (by omega) | exact ownM.adr S (i := 2) rfl (by omega) | exact rfl) (by omega) (by first | omega | omega)) ?_; clear H a; intro a H
              refine still_does H rfl (does_load one_29 rfl (by first | exact ownM.rd S (i := 2) rfl (by omega) (by omega) | exact rowsM.rd S (i := 1) rfl (by omega) (by omega) | exact boxM.rd S (i := 0) rfl rfl | exact boxM.rd S (i := 1) rfl rfl | exact boxM.rd S (i := 2) rfl rfl | exact boxM.rd S (i := 3) rfl rfl)) ?_; clear H a; intro a H
              refine still_does H rfl (by first | exact does_field_pt fo_48_0 rfl | exact does_field fo_48_0 rfl) ?_; clear H a; intro a H
              refine still_does H rfl (does_load one_3 rfl (by first | exact ownM.rd S (i := 2) rfl (by omega) (by omega) | exact rowsM.rd S (i := 1) rfl (by omega) (by omega) | exact boxM.rd S (i := 0) rfl rfl | exact boxM.rd S (i := 1) rfl rfl | exact boxM.rd S (i := 2) rfl rfl | exact boxM.rd S (i := 3) rfl rfl)) ?_; clear H a; intro a H
              refine still_does H rfl (does_move rfl) ?_; clear H a; intro a H
              refine still_does H rfl (by first | exact does_field_pt fo_48_1 rfl | exact does_field fo_48_1 rfl) ?_; clear H a; intro a H
              refine still_does H rfl (does_load one_3 rfl (by first | exact ownM.rd S (i := 2) rfl (by omega) (by omega) | exact rowsM.rd S (i := 1) rfl (by omega) (by omega) | exact boxM.rd S (i := 0) rfl rfl | exact boxM.rd S (i := 1) rfl rfl | exact boxM.rd S (i := 2) rfl rfl | exact boxM.rd S (i := 3) rfl rfl)) ?_; clear H a; intro a H
              refine still_does H rfl (by first | exact does_indexN sl_101 sz_29 rfl rfl (by first | exact hl.adr (by omega) | exact ownM.adr S (i := 2) rfl (by omega) | exact rfl) (by first | omega | omega) | exact does_index sl_101 sz_29 rfl rfl (by first | exact hl.adr (by omega) | exact ownM.adr S (i := 2) rfl (by omega) | exact rfl) (by omega) (by first | omega | omega)) ?_; clear H a; intro a H
              refine still_does H rfl (does_load one_29 rfl (by first | exact ownM.rd S (i := 2) rfl (by omega) (by omega) | exact rowsM.rd S (i := 1) rfl (by omega) (by omega) | exact boxM.rd S (i := 0) rfl rfl | exact boxM.rd S (i := 1) rfl rfl | exact boxM.rd S (i := 2) rfl rfl | exact boxM.rd S (i := 3) rfl rfl)) ?_; clear H a; intro a H
              refine still_does H rfl (by first | exact does_field_pt fo_48_0 rfl | exact does_field fo_48_0 rfl) ?_; clear H a; intro a H
              refine still_does H rfl (does_load one_3 rfl (by first | exact ownM.rd S (i := 2) rfl (by omega) (by omega) | exact rowsM.rd S (i := 1) rfl (by omega) (by omega) | exact boxM.rd S (i := 0) rfl rfl | exact boxM.rd S (i := 1) rfl rfl | exact boxM.rd S (i := 2) rfl rfl | exact boxM.rd S (i := 3) rfl rfl)) ?_; clear H a; intro a H
              refine still_does H rfl (by first | exact does_indexN sl_29 sz_3 rfl rfl (by first | exact hl.adr (by omega) | exact ownM.adr S (i := 2) rfl (by omega) | exact rfl) (by first | omega | omega) | exact does_index sl_29 sz_3 rfl rfl (by first | exact hl.adr (by omega) | exact ownM.adr S (i := 2) rfl (by omega) | exact rfl) (by omega) (by first | omega | omega)) ?_; clear H a; intro a H
              refine still_does H rfl (does_load one_3 rfl (by first | exact ownM.rd S (i := 2) rfl (by omega) (by omega) | exact rowsM.rd S (i := 1) rfl (by omega) (by omega) | exact boxM.rd S (i := 0) rfl rfl | exact boxM.rd S (i := 1) rfl rfl | exact boxM.rd S (i := 2) rfl rfl | exact boxM.rd S (i := 3) rfl rfl)) ?_; clear H a; intro a H
              refine still_does H rfl (by first | exact does_field_pt fo_48_2 rfl | exact does_field fo_48_2 rfl) ?_; clear H a; intro a H
              refine still_does H rfl (by first | exact does_field_pt fo_42_0 rfl | exact does_field fo_42_0 rfl) ?_; clear H a; intro a H
              refine still_does H rfl (does_load one_3 rfl (by first | exact ownM.rd S (i := 2) rfl (by omega) (by omega) | exact rowsM.rd S (i := 1) rfl (by omega) (by omega) | exact boxM.rd S (i := 0) rfl rfl | exact boxM.rd S (i := 1) rfl rfl | exact boxM.rd S (i := 2) rfl rfl | exact boxM.rd S (i := 3) rfl rfl)) ?_; clear H a; intro a H
              refine still_does H rfl (does_neg rfl (by unfold i64ok; omega)) ?_; clear H a; intro a H
              refine still_does H rfl (does_min rfl rfl) ?_; clear H a; intro a H
              refine still_does H rfl (by first | exact does_indexN sl_29 sz_3 rfl rfl (by first | exact hl.adr (by omega) | exact ownM.adr S (i := 2) rfl (by omega) | exact rfl) (by first | omega | omega) | exact does_index sl_29 sz_3 rfl rfl (by first | exact hl.adr (by omega) | exact ownM.adr S (i := 2) rfl (by omega) | exact rfl) (by omega) (by first | omega | omega)) ?_; clear H a; intro a H
              refine wpStill_nil ?_
              first | (refine list_store_row H S (i := 1) rfl rfl rfl (by omega) (by omega) sz_3 ?_)
              clear H a S; intro _ a S H
              refine hK37 _ _ ?_
              replace H := H.keep [1, 2, 6, 11] rfl
              refine one_still ?_
              refine still_does H rfl (does_move rfl) ?_; clear H a; intro a H
              refine still_does H rfl (does_add rfl rfl (by unfold i64ok; omega)) ?_; clear H a; intro a H
              refine still_does H rfl (does_assign rfl) ?_; clear H a; intro a H
              refine wpStill_nil ?_
              exact hK34 (g4 - 1) (q + 1) a _ (by omega) (by omega) (S.sel [1, 2, 3] rfl rfl) (H.keep [11, 1, 2, 6] rfl)
            · try simp only [Bool.or_eq_true, Bool.and_eq_true, Bool.not_eq_true', Bool.or_eq_false_iff, Bool.and_eq_false_iff, Bool.not_eq_false', decide_eq_true_eq, decide_eq_false_iff_not, Int.not_lt, Int.not_le] at hc5
              refine wp_exit ?_
              refine hK32 _ _ ?_
              refine wp_seq_k (fun K42 hK42 => ?_)
              replace H := H.keep [2, 6] rfl
              refine seq_still (fun K43 hK43 => ?_)
              refine still_does H rfl (does_assign rfl) ?_; clear H a; intro a H
              refine wpStill_nil (hK43 _ ?_)
              clear hK43 K43
              refine wp_block ?_
              have hq9 : l.length = q := by omega
              replace S := rowsM.congr S (i := 0) (M' := netR (⟨(m : Int), pitch, limit⟩ : Chain) l) rfl (fun x y hx hy => by rw [← hq9]; rfl) (fun _ _ => rfl) (fun _ _ => rfl)
              refine loop_st (X := Nat × IM) (R0 := _) [2, 6] H rfl (fun ⟨by_, M⟩ => [(13, .int .i64 (by_ : Int))]) (fun ⟨by_, M⟩ => [rowsM 3 (m + 1) (m + 1) rb rc (M)]) (fun g ⟨by_, M⟩ => by_ ≤ m + 1 ∧ g + by_ = m + 1 ∧ Net (m + 1) by_ M ∧ fwTo (m + 1) (netR (⟨(m : Int), pitch, limit⟩ : Chain) l) by_ = some M) (m + 1) (0, netR (⟨(m : Int), pitch, limit⟩ : Chain) l) ?_ (S.sel [0, 1, 2] rfl rfl) (H.keep [13, 2, 6] rfl) ?_
              · exact ⟨by omega, by omega, gaugeR_net hc0 hg (m + 1) l.length (Nat.le_refl _), rfl⟩
              · intro g5 x5 a w5 hp S H K44 hK44
                obtain ⟨by_, M⟩ := x5
                dsimp only at hp S H
                have hN := hp.2.2.1
                refine wp_seq_k (fun K45 hK45 => ?_)
                replace H := H.keep [2, 6, 13] rfl
                refine seq_still (fun K46 hK46 => ?_)
                refine still_does H rfl (does_move rfl) ?_; clear H a; intro a H
                refine still_does H rfl (by first | exact does_field_pt fo_23_0 rfl | exact does_field fo_23_0 rfl) ?_; clear H a; intro a H
                refine still_does H rfl (does_load one_3 rfl (by first | exact ownM.rd S (i := 1) rfl (by omega) (by omega) | exact rowsM.rd S (i := 0) rfl (by omega) (by omega) | exact boxM.rd S (i := 0) rfl rfl | exact boxM.rd S (i := 1) rfl rfl | exact boxM.rd S (i := 2) rfl rfl)) ?_; clear H a; intro a H
                refine still_does H rfl (does_leq rfl rfl) ?_; clear H a; intro a H
                refine wpStill_nil (hK46 _ ?_)
                clear hK46 K46
                refine cond_ H rfl (fun hc6 => ?_) (fun hc6 => ?_)
                · try simp only [Bool.or_eq_true, Bool.and_eq_true, Bool.not_eq_true', Bool.or_eq_false_iff, Bool.and_eq_false_iff, Bool.not_eq_false', decide_eq_true_eq, decide_eq_false_iff_not, Int.not_lt, Int.not_le] at hc6
                  refine wp_skip ?_
                  refine hK45 _ _ ?_
                  refine wp_seq_k (fun K47 hK47 => ?_)
                  refine wp_block ?_
                  refine wp_seq_k (fun K48 hK48 => ?_)
                  replace H := H.keep [2, 6, 13] rfl
                  refine seq_still (fun K49 hK49 => ?_)
                  refine still_does H rfl (does_assign rfl) ?_; clear H a; intro a H
                  refine wpStill_nil (hK49 _ ?_)
                  clear hK49 K49
                  refine wp_block ?_
                  have hp5 := hp
                  replace S := rowsM.congr S (i := 0) (M' := fstg M by_ 0 0) rfl (fun x y hx hy => (fstg_zero _ _ _ _).symm) (fun _ _ => rfl) (fun _ _ => rfl)
                  refine loop_st (X := Nat) (R0 := _) [2, 6, 13] H rfl (fun p => [(14, .int .i64 (p : Int))]) (fun p => [rowsM 3 (m + 1) (m + 1) rb rc (fstg M by_ p 0)]) (fun g p => p ≤ m + 1 ∧ g + p = m + 1) (m + 1) 0 ?_ (S.sel [0, 1, 2] rfl rfl) (H.keep [14, 2, 6, 13] rfl) ?_
                  · exact ⟨by omega, by omega⟩
                  · intro g6 x6 a w6 hp S H K50 hK50
                    obtain ⟨p, rfl⟩ : ∃ y, y = x6 := ⟨_, rfl⟩
                    skip
                    refine wp_seq_k (fun K51 hK51 => ?_)
                    replace H := H.keep [2, 6, 13, 14] rfl
                    refine seq_still (fun K52 hK52 => ?_)
                    refine still_does H rfl (does_move rfl) ?_; clear H a; intro a H
                    refine still_does H rfl (by first | exact does_field_pt fo_23_0 rfl | exact does_field fo_23_0 rfl) ?_; clear H a; intro a H
                    refine still_does H rfl (does_load one_3 rfl (by first | exact ownM.rd S (i := 1) rfl (by omega) (by omega) | exact rowsM.rd S (i := 0) rfl (by omega) (by omega) | exact boxM.rd S (i := 0) rfl rfl | exact boxM.rd S (i := 1) rfl rfl | exact boxM.rd S (i := 2) rfl rfl)) ?_; clear H a; intro a H
                    refine still_does H rfl (does_leq rfl rfl) ?_; clear H a; intro a H
                    refine wpStill_nil (hK52 _ ?_)
                    clear hK52 K52
                    refine cond_ H rfl (fun hc7 => ?_) (fun hc7 => ?_)
                    · try simp only [Bool.or_eq_true, Bool.and_eq_true, Bool.not_eq_true', Bool.or_eq_false_iff, Bool.and_eq_false_iff, Bool.not_eq_false', decide_eq_true_eq, decide_eq_false_iff_not, Int.not_lt, Int.not_le] at hc7
                      refine wp_skip ?_
                      refine hK51 _ _ ?_
                      refine wp_seq_k (fun K53 hK53 => ?_)
                      refine wp_block ?_
                      replace H := H.keep [2, 6, 13, 14] rfl
                      refine seq_still (fun K54 hK54 => ?_)
                      refine still_does H rfl (does_assign rfl) ?_; clear H a; intro a H
                      refine wpStill_nil (hK54 _ ?_)
                      clear hK54 K54
                      refine wp_block ?_
                      refine loop_st (X := Nat) (R0 := _) [2, 6, 13, 14] H rfl (fun r => [(15, .int .i64 (r : Int))]) (fun r => [rowsM 3 (m + 1) (m + 1) rb rc (fstg M by_ p r)]) (fun g r => r ≤ m + 1 ∧ g + r = m + 1) (m + 1) 0 ?_ (S.sel [0, 1, 2] rfl rfl) (H.keep [15, 2, 6, 13, 14] rfl) ?_
                      · exact ⟨by omega, by omega⟩
                      · intro g7 x7 a w7 hp S H K55 hK55
                        obtain ⟨r, rfl⟩ : ∃ y, y = x7 := ⟨_, rfl⟩
                        skip
                        refine wp_seq_k (fun K56 hK56 => ?_)
                        replace H := H.keep [2, 6, 13, 14, 15] rfl
                        refine seq_still (fun K57 hK57 => ?_)
                        refine still_does H rfl (does_move rfl) ?_; clear H a; intro a H
                        refine still_does H rfl (by first | exact does_field_pt fo_23_0 rfl | exact does_field fo_23_0 rfl) ?_; clear H a; intro a H
                        refine still_does H rfl (does_load one_3 rfl (by first | exact ownM.rd S (i := 1) rfl (by omega) (by omega) | exact rowsM.rd S (i := 0) rfl (by omega) (by omega) | exact boxM.rd S (i := 0) rfl rfl | exact boxM.rd S (i := 1) rfl rfl | exact boxM.rd S (i := 2) rfl rfl)) ?_; clear H a; intro a H
                        refine still_does H rfl (does_leq rfl rfl) ?_; clear H a; intro a H
                        refine wpStill_nil (hK57 _ ?_)
                        clear hK57 K57
                        refine cond_ H rfl (fun hc8 => ?_) (fun hc8 => ?_)
                        · try simp only [Bool.or_eq_true, Bool.and_eq_true, Bool.not_eq_true', Bool.or_eq_false_iff, Bool.and_eq_false_iff, Bool.not_eq_false', decide_eq_true_eq, decide_eq_false_iff_not, Int.not_lt, Int.not_le] at hc8
                          refine wp_skip ?_
                          refine hK56 _ _ ?_
                          refine wp_seq_k (fun K58 hK58 => ?_)
                          refine wp_block ?_
                          have hv1 := hN.fstg (show by_ < m + 1 by omega) p r p by_ (by omega) (by omega); have hv2 := hN.fstg (show by_ < m + 1 by omega) p r by_ r (by omega) (by omega); have hpw := pw_le (by_ + 1) (by omega); unfold wide at hv1 hv2
                          replace H := H.keep [2, 6, 13, 14, 15] rfl
                          refine one_tail 29 (by kernel_rfl) (by kernel_rfl) ?_
                          replace S := S.drew
                          refine still_does H rfl (does_move rfl) ?_; clear H a; intro a H
                          refine still_does H rfl (does_move rfl) ?_; clear H a; intro a H
                          refine still_does H rfl (by first | exact does_indexN sl_101 sz_29 rfl rfl (by first | exact hl.adr (by omega) | exact ownM.adr S (i := 1) rfl (by omega) | exact rfl) (by first | omega | omega) | exact does_index sl_101 sz_29 rfl rfl (by first | exact hl.adr (by omega) | exact ownM.adr S (i := 1) rfl (by omega) | exact rfl) (by omega) (by first | omega | omega)) ?_; clear H a; intro a H
                          refine still_does H rfl (does_load one_29 rfl (by first | exact ownM.rd S (i := 1) rfl (by omega) (by omega) | exact rowsM.rd S (i := 0) rfl (by omega) (by omega) | exact boxM.rd S (i := 0) rfl rfl | exact boxM.rd S (i := 1) rfl rfl | exact boxM.rd S (i := 2) rfl rfl)) ?_; clear H a; intro a H
                          refine still_does H rfl (does_move rfl) ?_; clear H a; intro a H
                          refine still_does H rfl (does_move rfl) ?_; clear H a; intro a H
                          refine still_does H rfl (does_move rfl) ?_; clear H a; intro a H
                          refine still_does H rfl (by first | exact does_indexN sl_101 sz_29 rfl rfl (by first | exact hl.adr (by omega) | exact ownM.adr S (i := 1) rfl (by omega) | exact rfl) (by first | omega | omega) | exact does_index sl_101 sz_29 rfl rfl (by first | exact hl.adr (by omega) | exact ownM.adr S (i := 1) rfl (by omega) | exact rfl) (by omega) (by first | omega | omega)) ?_; clear H a; intro a H
                          refine still_does H rfl (does_load one_29 rfl (by first | exact ownM.rd S (i := 1) rfl (by omega) (by omega) | exact rowsM.rd S (i := 0) rfl (by omega) (by omega) | exact boxM.rd S (i := 0) rfl rfl | exact boxM.rd S (i := 1) rfl rfl | exact boxM.rd S (i := 2) rfl rfl)) ?_; clear H a; intro a H
                          refine still_does H rfl (does_move rfl) ?_; clear H a; intro a H
                          refine still_does H rfl (by first | exact does_indexN sl_29 sz_3 rfl rfl (by first | exact hl.adr (by omega) | exact ownM.adr S (i := 1) rfl (by omega) | exact rfl) (by first | omega | omega) | exact does_index sl_29 sz_3 rfl rfl (by first | exact hl.adr (by omega) | exact ownM.adr S (i := 1) rfl (by omega) | exact rfl) (by omega) (by first | omega | omega)) ?_; clear H a; intro a H
                          refine still_does H rfl (does_load one_3 rfl (by first | exact ownM.rd S (i := 1) rfl (by omega) (by omega) | exact rowsM.rd S (i := 0) rfl (by omega) (by omega) | exact boxM.rd S (i := 0) rfl rfl | exact boxM.rd S (i := 1) rfl rfl | exact boxM.rd S (i := 2) rfl rfl)) ?_; clear H a; intro a H
                          refine still_does H rfl (does_move rfl) ?_; clear H a; intro a H
                          refine still_does H rfl (does_move rfl) ?_; clear H a; intro a H
                          refine still_does H rfl (by first | exact does_indexN sl_101 sz_29 rfl rfl (by first | exact hl.adr (by omega) | exact ownM.adr S (i := 1) rfl (by omega) | exact rfl) (by first | omega | omega) | exact does_index sl_101 sz_29 rfl rfl (by first | exact hl.adr (by omega) | exact ownM.adr S (i := 1) rfl (by omega) | exact rfl) (by omega) (by first | omega | omega)) ?_; clear H a; intro a H
                          refine still_does H rfl (does_load one_29 rfl (by first | exact ownM.rd S (i := 1) rfl (by omega) (by omega) | exact rowsM.rd S (i := 0) rfl (by omega) (by omega) | exact boxM.rd S (i := 0) rfl rfl | exact boxM.rd S (i := 1) rfl rfl | exact boxM.rd S (i := 2) rfl rfl)) ?_; clear H a; intro a H
                          refine still_does H rfl (does_move rfl) ?_; clear H a; intro a H
                          refine still_does H rfl (by first | exact does_indexN sl_29 sz_3 rfl rfl (by first | exact hl.adr (by omega) | exact ownM.adr S (i := 1) rfl (by omega) | exact rfl) (by first | omega | omega) | exact does_index sl_29 sz_3 rfl rfl (by first | exact hl.adr (by omega) | exact ownM.adr S (i := 1) rfl (by omega) | exact rfl) (by omega) (by first | omega | omega)) ?_; clear H a; intro a H
                          refine still_does H rfl (does_load one_3 rfl (by first | exact ownM.rd S (i := 1) rfl (by omega) (by omega) | exact rowsM.rd S (i := 0) rfl (by omega) (by omega) | exact boxM.rd S (i := 0) rfl rfl | exact boxM.rd S (i := 1) rfl rfl | exact boxM.rd S (i := 2) rfl rfl)) ?_; clear H a; intro a H
                          refine still_does H rfl (does_move rfl) ?_; clear H a; intro a H
                          refine still_does H rfl (does_move rfl) ?_; clear H a; intro a H
                          refine still_does H rfl (by first | exact does_indexN sl_101 sz_29 rfl rfl (by first | exact hl.adr (by omega) | exact ownM.adr S (i := 1) rfl (by omega) | exact rfl) (by first | omega | omega) | exact does_index sl_101 sz_29 rfl rfl (by first | exact hl.adr (by omega) | exact ownM.adr S (i := 1) rfl (by omega) | exact rfl) (by omega) (by first | omega | omega)) ?_; clear H a; intro a H
                          refine still_does H rfl (does_load one_29 rfl (by first | exact ownM.rd S (i := 1) rfl (by omega) (by omega) | exact rowsM.rd S (i := 0) rfl (by omega) (by omega) | exact boxM.rd S (i := 0) rfl rfl | exact boxM.rd S (i := 1) rfl rfl | exact boxM.rd S (i := 2) rfl rfl)) ?_; clear H a; intro a H
                          refine still_does H rfl (does_move rfl) ?_; clear H a; intro a H
                          refine still_does H rfl (by first | exact does_indexN sl_29 sz_3 rfl rfl (by first | exact hl.adr (by omega) | exact ownM.adr S (i := 1) rfl (by omega) | exact rfl) (by first | omega | omega) | exact does_index sl_29 sz_3 rfl rfl (by first | exact hl.adr (by omega) | exact ownM.adr S (i := 1) rfl (by omega) | exact rfl) (by omega) (by first | omega | omega)) ?_; clear H a; intro a H
                          refine still_does H rfl (does_load one_3 rfl (by first | exact ownM.rd S (i := 1) rfl (by omega) (by omega) | exact rowsM.rd S (i := 0) rfl (by omega) (by omega) | exact boxM.rd S (i := 0) rfl rfl | exact boxM.rd S (i := 1) rfl rfl | exact boxM.rd S (i := 2) rfl rfl)) ?_; clear H a; intro a H
                          refine still_does H rfl (does_add rfl rfl (by unfold i64ok; omega)) ?_; clear H a; intro a H
                          refine still_does H rfl (does_min rfl rfl) ?_; clear H a; intro a H
                          refine still_does H rfl (by first | exact does_indexN sl_29 sz_3 rfl rfl (by first | exact hl.adr (by omega) | exact ownM.adr S (i := 1) rfl (by omega) | exact rfl) (by first | omega | omega) | exact does_index sl_29 sz_3 rfl rfl (by first | exact hl.adr (by omega) | exact ownM.adr S (i := 1) rfl (by omega) | exact rfl) (by omega) (by first | omega | omega)) ?_; clear H a; intro a H
                          refine wpStill_nil ?_
                          first | (refine list_store_row H S (i := 0) (p := p) (q := r) rfl rfl rfl (by omega) (by omega) sz_3 ?_)
                          clear H a S; intro _ a S H
                          replace S := rowsM.congr S (i := 0) (M' := fstg M by_ p (r + 1)) rfl (fun x y hx hy => by rw [fstg_new (hN.diag by_ (by omega))]; exact fstg_step _ _ _ _ _ _) (fun _ _ => rfl) (fun _ _ => rfl)
                          refine hK58 _ _ ?_
                          replace H := H.keep [2, 6, 13, 14, 15] rfl
                          refine one_still ?_
                          refine still_does H rfl (does_move rfl) ?_; clear H a; intro a H
                          refine still_does H rfl (does_add rfl rfl (by unfold i64ok; omega)) ?_; clear H a; intro a H
                          refine still_does H rfl (does_assign rfl) ?_; clear H a; intro a H
                          refine wpStill_nil ?_
                          exact hK55 (g7 - 1) (r + 1) a _ (by omega) (by omega) (S.sel [0, 1, 2] rfl rfl) (H.keep [15, 2, 6, 13, 14] rfl)
                        · try simp only [Bool.or_eq_true, Bool.and_eq_true, Bool.not_eq_true', Bool.or_eq_false_iff, Bool.and_eq_false_iff, Bool.not_eq_false', decide_eq_true_eq, decide_eq_false_iff_not, Int.not_lt, Int.not_le] at hc8
                          refine wp_exit ?_
                          refine hK53 _ _ ?_
                          replace H := H.keep [2, 6, 13, 14] rfl
                          refine one_still ?_
                          refine still_does H rfl (does_move rfl) ?_; clear H a; intro a H
                          refine still_does H rfl (does_add rfl rfl (by unfold i64ok; omega)) ?_; clear H a; intro a H
                          refine still_does H rfl (does_assign rfl) ?_; clear H a; intro a H
                          refine wpStill_nil ?_
                          replace S := rowsM.congr S (i := 0) (M' := fstg M by_ (p + 1) 0) rfl (fun x y hx hy => by rw [show r = m + 1 by omega]; exact fstg_row _ _ _ _ _ _ hy) (fun _ _ => rfl) (fun _ _ => rfl)
                          exact hK50 (g6 - 1) (p + 1) a _ (by omega) (by omega) (S.sel [0, 1, 2] rfl rfl) (H.keep [14, 2, 6, 13] rfl)
                    · try simp only [Bool.or_eq_true, Bool.and_eq_true, Bool.not_eq_true', Bool.or_eq_false_iff, Bool.and_eq_false_iff, Bool.not_eq_false', decide_eq_true_eq, decide_eq_false_iff_not, Int.not_lt, Int.not_le] at hc7
                      refine wp_exit ?_
                      refine hK48 _ _ ?_
                      replace H := H.keep [2, 6, 13] rfl
                      refine seq_still (fun K62 hK62 => ?_)
                      refine still_does H rfl (does_assign rfl) ?_; clear H a; intro a H
                      refine wpStill_nil (hK62 _ ?_)
                      clear hK62 K62
                      refine wp_block ?_
                      replace S := rowsM.congr S (i := 0) (M' := fwP M by_) rfl (fun x y hx hy => by rw [show p = m + 1 by omega]; exact fstg_all _ _ _ _ _ hx) (fun _ _ => rfl) (fun _ _ => rfl)
                      refine loop_st (X := Nat) (R0 := _) [2, 6, 13] H rfl (fun t => [(16, .int .i64 (t : Int))]) (fun t => []) (fun g t => t ≤ m + 1 ∧ g + t = m + 1 ∧ (List.range t).all (fun q => decide (0 ≤ (fwP M by_) q q)) = true) (m + 1) 0 ?_ (S.sel [0, 1, 2] rfl rfl) (H.keep [16, 2, 6, 13] rfl) ?_
                      · exact ⟨by omega, by omega, rfl⟩
                      · intro g8 x8 a w8 hp S H K63 hK63
                        obtain ⟨t, rfl⟩ : ∃ y, y = x8 := ⟨_, rfl⟩
                        skip
                        refine wp_seq_k (fun K64 hK64 => ?_)
                        replace H := H.keep [2, 6, 13, 16] rfl
                        refine seq_still (fun K65 hK65 => ?_)
                        refine still_does H rfl (does_move rfl) ?_; clear H a; intro a H
                        refine still_does H rfl (by first | exact does_field_pt fo_23_0 rfl | exact does_field fo_23_0 rfl) ?_; clear H a; intro a H
                        refine still_does H rfl (does_load one_3 rfl (by first | exact ownM.rd S (i := 1) rfl (by omega) (by omega) | exact rowsM.rd S (i := 0) rfl (by omega) (by omega) | exact boxM.rd S (i := 0) rfl rfl | exact boxM.rd S (i := 1) rfl rfl | exact boxM.rd S (i := 2) rfl rfl)) ?_; clear H a; intro a H
                        refine still_does H rfl (does_leq rfl rfl) ?_; clear H a; intro a H
                        refine wpStill_nil (hK65 _ ?_)
                        clear hK65 K65
                        refine cond_ H rfl (fun hc9 => ?_) (fun hc9 => ?_)
                        · try simp only [Bool.or_eq_true, Bool.and_eq_true, Bool.not_eq_true', Bool.or_eq_false_iff, Bool.and_eq_false_iff, Bool.not_eq_false', decide_eq_true_eq, decide_eq_false_iff_not, Int.not_lt, Int.not_le] at hc9
                          refine wp_skip ?_
                          refine hK64 _ _ ?_
                          refine wp_seq_k (fun K66 hK66 => ?_)
                          refine wp_block ?_
                          skip
                          replace H := H.keep [2, 6, 13, 16] rfl
                          refine seq_still (fun K67 hK67 => ?_)
                          refine still_does H rfl (does_move rfl) ?_; clear H a; intro a H
                          refine still_does H rfl (does_move rfl) ?_; clear H a; intro a H
                          refine still_does H rfl (by first | exact does_indexN sl_101 sz_29 rfl rfl (by first | exact hl.adr (by omega) | exact ownM.adr S (i := 1) rfl (by omega) | exact rfl) (by first | omega | omega) | exact does_index sl_101 sz_29 rfl rfl (by first | exact hl.adr (by omega) | exact ownM.adr S (i := 1) rfl (by omega) | exact rfl) (by omega) (by first | omega | omega)) ?_; clear H a; intro a H
                          refine still_does H rfl (does_load one_29 rfl (by first | exact ownM.rd S (i := 1) rfl (by omega) (by omega) | exact rowsM.rd S (i := 0) rfl (by omega) (by omega) | exact boxM.rd S (i := 0) rfl rfl | exact boxM.rd S (i := 1) rfl rfl | exact boxM.rd S (i := 2) rfl rfl)) ?_; clear H a; intro a H
                          refine still_does H rfl (does_move rfl) ?_; clear H a; intro a H
                          refine still_does H rfl (by first | exact does_indexN sl_29 sz_3 rfl rfl (by first | exact hl.adr (by omega) | exact ownM.adr S (i := 1) rfl (by omega) | exact rfl) (by first | omega | omega) | exact does_index sl_29 sz_3 rfl rfl (by first | exact hl.adr (by omega) | exact ownM.adr S (i := 1) rfl (by omega) | exact rfl) (by omega) (by first | omega | omega)) ?_; clear H a; intro a H
                          refine still_does H rfl (does_load one_3 rfl (by first | exact ownM.rd S (i := 1) rfl (by omega) (by omega) | exact rowsM.rd S (i := 0) rfl (by omega) (by omega) | exact boxM.rd S (i := 0) rfl rfl | exact boxM.rd S (i := 1) rfl rfl | exact boxM.rd S (i := 2) rfl rfl)) ?_; clear H a; intro a H
                          refine still_does H rfl (does_lss rfl rfl) ?_; clear H a; intro a H
                          refine wpStill_nil (hK67 _ ?_)
                          clear hK67 K67
                          refine cond_ H rfl (fun hc10 => ?_) (fun hc10 => ?_)
                          · try simp only [Bool.or_eq_true, Bool.and_eq_true, Bool.not_eq_true', Bool.or_eq_false_iff, Bool.and_eq_false_iff, Bool.not_eq_false', decide_eq_true_eq, decide_eq_false_iff_not, Int.not_lt, Int.not_le] at hc10
                            replace H := H.keep [6] rfl
                            refine seq_still (fun K68 hK68 => ?_)
                            refine still_does H rfl (does_move rfl) ?_; clear H a; intro a H
                            refine still_does H rfl (does_assign rfl) ?_; clear H a; intro a H
                            refine still_does H rfl (does_assign rfl) ?_; clear H a; intro a H
                            refine wpStill_nil (hK68 _ ?_)
                            clear hK68 K68
                            refine wp_ret ?_
                            refine ret2 (fn := Try.f68) rfl H rfl rfl ?_
                            have hD : diagB (m + 1) (fwP M by_) = false := by unfold diagB; exact range_all_false (k := t) (by omega) (by simp only [decide_eq_false_iff_not]; omega)
                            have e : buildO (⟨(m : Int), pitch, limit⟩ : Chain) l = none := fwTo_none (n := m + 1) (k := by_ + 1) (by simp only [fwTo, hp5.2.2.2, hD]; rfl) (m + 1) (by omega)
                            show Built _ _ _ _ _; rw [e]; exact ⟨W, cw, rfl, (S.sel [] rfl rfl)⟩
                          · try simp only [Bool.or_eq_true, Bool.and_eq_true, Bool.not_eq_true', Bool.or_eq_false_iff, Bool.and_eq_false_iff, Bool.not_eq_false', decide_eq_true_eq, decide_eq_false_iff_not, Int.not_lt, Int.not_le] at hc10
                            refine wp_skip ?_
                            refine hK66 _ _ ?_
                            replace H := H.keep [2, 6, 13, 16] rfl
                            refine one_still ?_
                            refine still_does H rfl (does_move rfl) ?_; clear H a; intro a H
                            refine still_does H rfl (does_add rfl rfl (by unfold i64ok; omega)) ?_; clear H a; intro a H
                            refine still_does H rfl (does_assign rfl) ?_; clear H a; intro a H
                            refine wpStill_nil ?_
                            exact hK63 (g8 - 1) (t + 1) a _ (by omega) (⟨by omega, by omega, by rw [range_all_succ (n := 0), hp.2.2]; simp only [Bool.true_and, decide_eq_true_eq]; omega⟩) (S.sel [0, 1, 2] rfl rfl) (H.keep [16, 2, 6, 13] rfl)
                        · try simp only [Bool.or_eq_true, Bool.and_eq_true, Bool.not_eq_true', Bool.or_eq_false_iff, Bool.and_eq_false_iff, Bool.not_eq_false', decide_eq_true_eq, decide_eq_false_iff_not, Int.not_lt, Int.not_le] at hc9
                          refine wp_exit ?_
                          refine hK47 _ _ ?_
                          replace H := H.keep [2, 6, 13] rfl
                          refine one_still ?_
                          refine still_does H rfl (does_move rfl) ?_; clear H a; intro a H
                          refine still_does H rfl (does_add rfl rfl (by unfold i64ok; omega)) ?_; clear H a; intro a H
                          refine still_does H rfl (does_assign rfl) ?_; clear H a; intro a H
                          refine wpStill_nil ?_
                          have hD : diagB (m + 1) (fwP M by_) = true := by unfold diagB; rw [← (by omega : t = m + 1)]; exact hp.2.2
                          exact hK44 (g5 - 1) (by_ + 1, fwP M by_) a _ (by omega) (⟨by omega, by omega, hN.next (by omega) hD, by simp only [fwTo, hp5.2.2.2, hD, if_true]⟩) (S.sel [0, 1, 2] rfl rfl) (H.keep [13, 2, 6] rfl)
                · try simp only [Bool.or_eq_true, Bool.and_eq_true, Bool.not_eq_true', Bool.or_eq_false_iff, Bool.and_eq_false_iff, Bool.not_eq_false', decide_eq_true_eq, decide_eq_false_iff_not, Int.not_lt, Int.not_le] at hc6
                  refine wp_exit ?_
                  refine hK42 _ _ ?_
                  replace H := H.keep [6] rfl
                  refine seq_still (fun K71 hK71 => ?_)
                  refine still_does H rfl (does_move rfl) ?_; clear H a; intro a H
                  refine still_does H rfl (does_assign rfl) ?_; clear H a; intro a H
                  refine still_does H rfl (does_assign rfl) ?_; clear H a; intro a H
                  refine wpStill_nil (hK71 _ ?_)
                  clear hK71 K71
                  refine wp_ret ?_
                  refine ret2 (fn := Try.f68) rfl H rfl rfl ?_
                  have h10 := hp.2.2.2
                  rw [show by_ = m + 1 by omega] at h10
                  have e : buildO (⟨(m : Int), pitch, limit⟩ : Chain) l = some M := h10
                  show Built _ _ _ _ _; rw [e]; exact ⟨W, cw, rb, rc, rfl, (S.sel [1, 0] rfl rfl)⟩

end Go.Proofs.Ytlejjfhgfajoiaa
