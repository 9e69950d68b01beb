/- ChWr. Printed by gen.py. -/
import Derived.Test.YtlejjfhgfajoiaaChWz
import Derived.Test.YtlejjfhgfajoiaaChJ
namespace Go.Proofs.Ytlejjfhgfajoiaa
open Go.RowKit
set_option linter.unusedVariables false
set_option linter.unusedSimpArgs false


theorem ncl_at {l : List Nat} {k j : Nat} : ncl l k j = .int .i64 ((l.getD k 0 : Nat) : Int) := rfl
theorem ncl_take {l : List Nat} {m : Nat} : ∀ q j, q < m → j < 1 → ncl l q j = ncl (l.take m) q j := by
  intro q j hq _
  unfold ncl
  rw [List.getD_eq_getElem?_getD, List.getD_eq_getElem?_getD, List.getElem?_take_of_lt hq]
theorem ncl_join {a b : List Nat} {n : Nat} (hn : n = a.length) {c c' : Nat → Nat → Value} (h : ∀ q j, q < a.length → j < 1 → c q j = ncl a q j) (h' : ∀ q j, q < b.length → j < 1 → c' q j = ncl b q j) : ∀ q j, q < a.length + b.length → j < 1 → capp n c c' q j = ncl (a ++ b) q j := by
  intro q j hq hj
  subst hn
  unfold capp
  by_cases h1 : q < a.length
  · rw [if_pos h1, h q j h1 hj]; unfold ncl; rw [List.getD_eq_getElem?_getD, List.getD_eq_getElem?_getD, List.getElem?_append_left h1]
  · rw [if_neg h1, h' _ j (by omega) hj]; unfold ncl; rw [List.getD_eq_getElem?_getD, List.getD_eq_getElem?_getD, List.getElem?_append_right (by omega)]
theorem ncl_drop {l : List Nat} {m : Nat} : ∀ q j, q < (l.drop m).length → j < 1 → ncl l (m + q) j = ncl (l.drop m) q j := by
  intro q j _ _
  unfold ncl
  rw [List.getD_eq_getElem?_getD, List.getD_eq_getElem?_getD, List.getElem?_drop]
theorem ncl_ones (l : List Nat) : ∀ k j, k < l.length → j < 1 → (ncl l k j).oneCell' = true := fun _ _ _ _ => rfl
theorem con_bad {c : Chain} {l : List Gauge} (h : checkE c l ≠ 0) : conO c l = .error (checkE c l) := by
  have h3 : checkE c l ≠ 3 := by
    intro e
    unfold checkE at e
    split at e
    · split at e
      · split at e
        · cases e
        · cases e
      · cases e
    · cases e
  unfold conO wholeO
  rw [if_pos h]
  exact if_neg h3
theorem con_cases {c : Chain} {l : List Gauge} (h : checkE c l = 0) : conO c l = if sufM (weaveW c l yes) 0 0 0 true then .ok (spK (sufP c l 0 0 0 true) l.length) else .error 3 := by
  unfold conO wholeO
  rw [if_neg (by omega), if_pos rfl]
  cases weaveW c l yes <;> rfl
theorem left_in {suf : (Nat → Bool) → Bool} {n i : Nat} (hi : i ≤ n) {k : Nat} (hk : k < (leftN suf n i).length) : (leftN suf n i).getD k 0 < n := by
  rw [List.getD_eq_getElem?_getD, List.getElem?_eq_getElem hk]
  exact leftN_lt hi (List.getElem_mem hk)


set_option maxRecDepth 100000 in
set_option maxHeartbeats 1000000 in
theorem ref_without (l : List Gauge) (A : Option Addr) (cp : Nat) (left : List Nat) (LA : Option Addr) (lac one_ : Nat) (w : World) (hl : InS w noF 4 A l.length (gcell l)) (hL : InS w noF 1 LA left.length (ncl left)) (hin : ∀ k, k < left.length → left.getD k 0 < l.length) (hlen : l.length ≤ 1000) (hll : left.length ≤ 1000) :
    Calls Try.prog 91 [.slice A l.length cp, .slice LA left.length lac, .int .i64 (one_ : Int)].toArray w (Ret (fun v w' => ∃ A' c', v = .slice A' (wo l left one_).length c' ∧ St w noF [ownM 48 4 A' (wo l left one_).length c' (gcell (wo l left one_))] w')) := by
  have hmx : maxLen = 9223372036854775807 := rfl
  refine enter Try.func91 rfl Try.ntmps91 rfl (fun a H => ?_)
  have S := St.start w
  refine seq_still (fun K1 hK1 => ?_)
  refine still_does H rfl (does_assign rfl) ?_; clear H a; intro a H
  refine wpStill_nil (hK1 _ ?_)
  clear hK1 K1
  replace H := H.keep [0, 1, 2] rfl
  refine seq_still (fun K2 hK2 => ?_)
  refine still_does H rfl (does_assign rfl) ?_; clear H a; intro a H
  refine wpStill_nil (hK2 _ ?_)
  clear hK2 K2
  refine wp_seq_k (fun K3 hK3 => ?_)
  replace H := H.keep [0, 1, 2, 7] rfl
  refine seq_still (fun K4 hK4 => ?_)
  refine still_does H rfl (does_assign rfl) ?_; clear H a; intro a H
  refine wpStill_nil (hK4 _ ?_)
  clear hK4 K4
  refine wp_block ?_
  replace S := S.newNil 48 4 (gcell (woTo l left one_ 0))
  refine loop_st (X := Nat × Option Addr × Nat × Nat) (R0 := _) [0, 1, 2] H rfl (fun ⟨k, A', n', c'⟩ => [(7, .slice A' n' c'), (8, .int .i64 (k : Int))]) (fun ⟨k, A', n', c'⟩ => [ownM 48 4 A' n' c' (gcell (woTo l left one_ k))]) (fun g ⟨k, A', n', c'⟩ => k ≤ left.length ∧ g + k = left.length ∧ n' = (woTo l left one_ k).length) (left.length) (0, none, 0, 0) ?_ (S.sel [0] rfl rfl) (H.keep [7, 8, 0, 1, 2] rfl) ?_
  · exact ⟨by omega, by omega, rfl⟩
  · intro g1 x1 a w1 hp S H K5 hK5
    obtain ⟨k, A', n', c'⟩ := x1
    dsimp only at hp S H
    have hn' := hp.2.2
    subst hn'
    refine wp_seq_k (fun K6 hK6 => ?_)
    replace H := H.keep [0, 1, 2, 7, 8] rfl
    refine seq_still (fun K7 hK7 => ?_)
    refine still_does H rfl (does_move rfl) ?_; clear H a; intro a H
    refine still_does H rfl (does_move rfl) ?_; clear H a; intro a H
    refine still_does H rfl (does_len sl_29 rfl) ?_; clear H a; intro a H
    refine still_does H rfl (does_lss rfl rfl) ?_; clear H a; intro a H
    refine wpStill_nil (hK7 _ ?_)
    clear hK7 K7
    refine cond_ H rfl (fun hc1 => ?_) (fun hc1 => ?_)
    · try simp only [Bool.or_eq_true, Bool.and_eq_true, Bool.not_eq_true', Bool.or_eq_false_iff, Bool.and_eq_false_iff, Bool.not_eq_false', decide_eq_true_eq, decide_eq_false_iff_not, Int.not_lt, Int.not_le] at hc1
      refine wp_skip ?_
      refine hK6 _ _ ?_
      refine wp_seq_k (fun K8 hK8 => ?_)
      refine wp_block ?_
      replace H := H.keep [0, 1, 2, 7, 8] rfl
      refine seq_still (fun K9 hK9 => ?_)
      refine still_does H rfl (does_move rfl) ?_; clear H a; intro a H
      refine still_does H rfl (does_move rfl) ?_; clear H a; intro a H
      refine still_does H rfl (does_neq rfl rfl) ?_; clear H a; intro a H
      refine wpStill_nil (hK9 _ ?_)
      clear hK9 K9
      refine cond_ H rfl (fun hc2 => ?_) (fun hc2 => ?_)
      · try simp only [Bool.or_eq_true, Bool.and_eq_true, Bool.not_eq_true', Bool.or_eq_false_iff, Bool.and_eq_false_iff, Bool.not_eq_false', decide_eq_true_eq, decide_eq_false_iff_not, Int.not_lt, Int.not_le] at hc2
        have hk6 := hin k (by omega)
        have hwl : (woTo l left one_ k).length ≤ k := by unfold woTo; rw [List.length_map]; exact Nat.le_trans (List.length_filter_le _ _) (by simp)
        replace H := H.keep [0, 1, 2, 7, 8] rfl
        refine one_list ?_
        refine list_does H rfl (does_move rfl) ?_; clear H a; intro a H
        refine list_does H rfl (does_move rfl) ?_; clear H a; intro a H
        refine list_does H rfl (does_move rfl) ?_; clear H a; intro a H
        refine list_does H rfl (does_move rfl) ?_; clear H a; intro a H
        refine list_does H rfl (does_indexN sl_29 sz_3 rfl rfl (by exact hL.adr (by omega)) (by omega)) ?_; clear H a; intro a H
        refine list_does H rfl (does_load one_3 rfl (by first | exact hL.rd S (by omega) (by omega) | exact boxM.rd S (i := 0) rfl rfl)) ?_; clear H a; intro a H
        refine list_does H rfl (by first | exact does_indexN sl_24 sz_48 rfl rfl (by first | exact hL.adr (by omega) | exact hl.adr (by omega)) (by first | omega | omega) | exact does_index sl_24 sz_48 rfl rfl (by first | exact hL.adr (by omega) | exact hl.adr (by omega)) (by omega) (by first | omega | omega)) ?_; clear H a; intro a H
        refine list_does H rfl (by first | exact does_loadIn agg_48 sz_48 rfl S hl (by omega) (by omega) | exact does_loadBox agg_48 sz_48 rfl S (i := 0) rfl rfl) ?_; clear H a; intro a H
        refine list_build' H rfl S sl_24 sz_48 ze_48 rfl rfl rfl rfl rfl rfl rfl rfl rfl ?_; clear H a S; intro A1 _ a hA1 S H
        refine list_append H rfl S sl_24 sz_48 ze_48 by_48 rfl rfl (i := 1) rfl rfl rfl (ownM.inS S (i := 0) rfl) (one_vs (four rfl rfl rfl rfl)) (by omega) (by omega) ?_; clear H a S; intro A2 c2 _ a S H
        replace S := S.recell (i := 1) rfl (gcell_app (g := gat l (left.getD k 0)) (four rfl rfl rfl rfl))
        have e8 : (woTo l left one_ k).length + 1 = (woTo l left one_ k ++ [gat l (left.getD k 0)]).length := by simp
        rw [e8] at S H
        refine list_does H rfl (does_assign rfl) ?_; clear H a; intro a H
        refine hK8 _ _ ?_
        replace H := H.keep [0, 1, 2, 7, 8] rfl
        refine one_still ?_
        refine still_does H rfl (does_move rfl) ?_; clear H a; intro a H
        refine still_does H rfl (does_add rfl rfl (by unfold i64ok; omega)) ?_; clear H a; intro a H
        refine still_does H rfl (does_assign rfl) ?_; clear H a; intro a H
        refine wpStill_nil ?_
        have hnx := woTo_succ l left one_ k
        first | rw [if_neg (by omega)] at hnx | rw [if_pos (by omega), List.append_nil] at hnx
        rw [← hnx] at S H
        exact hK5 (g1 - 1) (k + 1, _, (woTo l left one_ (k + 1)).length, _) a _ (by omega) (⟨by omega, by omega, rfl⟩) (S.sel [1] rfl rfl) (H.keep [7, 8, 0, 1, 2] rfl)
      · try simp only [Bool.or_eq_true, Bool.and_eq_true, Bool.not_eq_true', Bool.or_eq_false_iff, Bool.and_eq_false_iff, Bool.not_eq_false', decide_eq_true_eq, decide_eq_false_iff_not, Int.not_lt, Int.not_le] at hc2
        refine wp_skip ?_
        refine hK8 _ _ ?_
        replace H := H.keep [0, 1, 2, 7, 8] rfl
        refine one_still ?_
        refine still_does H rfl (does_move rfl) ?_; clear H a; intro a H
        refine still_does H rfl (does_add rfl rfl (by unfold i64ok; omega)) ?_; clear H a; intro a H
        refine still_does H rfl (does_assign rfl) ?_; clear H a; intro a H
        refine wpStill_nil ?_
        have hnx := woTo_succ l left one_ k
        first | rw [if_neg (by omega)] at hnx | rw [if_pos (by omega), List.append_nil] at hnx
        rw [← hnx] at S H
        exact hK5 (g1 - 1) (k + 1, _, (woTo l left one_ (k + 1)).length, _) a _ (by omega) (⟨by omega, by omega, rfl⟩) (S.sel [0] rfl rfl) (H.keep [7, 8, 0, 1, 2] rfl)
    · try simp only [Bool.or_eq_true, Bool.and_eq_true, Bool.not_eq_true', Bool.or_eq_false_iff, Bool.and_eq_false_iff, Bool.not_eq_false', decide_eq_true_eq, decide_eq_false_iff_not, Int.not_lt, Int.not_le] at hc1
      refine wp_exit ?_
      refine hK3 _ _ ?_
      replace H := H.keep [7] rfl
      refine seq_still (fun K13 hK13 => ?_)
      refine still_does H rfl (does_move rfl) ?_; clear H a; intro a H
      refine still_does H rfl (does_assign rfl) ?_; clear H a; intro a H
      refine wpStill_nil (hK13 _ ?_)
      clear hK13 K13
      refine wp_ret ?_
      refine ret1 (fn := Try.f91) rfl H rfl ?_
      have hk9 : k = left.length := by omega
      subst hk9
      rw [woTo_all] at S ⊢
      exact ⟨A', c', rfl, (S.sel [0] rfl rfl)⟩

set_option maxRecDepth 100000 in
set_option maxHeartbeats 1000000 in
theorem ref_holds (links pitch limit : Int) (fr to : Nat) (most : Int) (apart : Bool) (l : List Gauge) (A : Option Addr) (cp : Nat) (w : World) (hc : chainOk (⟨links, pitch, limit⟩ : Chain) = true) (hg : l.all (gaugeOk links) = true) (hlen : l.length ≤ 1000000) (hfr : fr ≤ links.toNat) (hto : to ≤ links.toNat) (hl : InS w noF 4 A l.length (gcell l)) :
    Calls Try.prog 81 [.agg [.int .i64 links, .int .i64 pitch, .int .i64 limit, .int .i64 (fr : Int), .int .i64 (to : Int), .int .i64 most, .bool apart].toArray, .slice A l.length cp].toArray w (Ret (fun v w' => v = .bool (sufM (weaveW (⟨links, pitch, limit⟩ : Chain) l yes) fr to most apart) ∧ St w noF [] w')) := by
  have hnn : Chain.n (⟨links, pitch, limit⟩ : Chain) = links.toNat + 1 := rfl
  refine enter Try.func81 rfl Try.ntmps81 rfl (fun a H => ?_)
  have S := St.start w
  refine seq_list (fun K1 hK1 => ?_)
  refine list_box H rfl S rfl rfl ?_; clear H a S; intro b2 _ a hb2 hbw2 S H
  refine list_does H rfl (does_assign rfl) ?_; clear H a; intro a H
  refine hK1 _ _ ?_
  clear hK1 K1
  rcases hW : weaveW (⟨links, pitch, limit⟩ : Chain) l yes with _ | M
  · skip
    replace H := H.keep [1, 2] rfl
    refine seq_list (fun K2 hK2 => ?_)
    refine list_does H rfl (by first | exact does_field_pt fo_120_0 rfl | exact does_field fo_120_0 rfl) ?_; clear H a; intro a H
    refine list_does H rfl (by first | exact does_loadBox agg_23 sz_23 rfl S (i := 0) rfl rfl) ?_; clear H a; intro a H
    refine list_does H rfl (does_move rfl) ?_; clear H a; intro a H
    refine list_call H rfl rfl Try.func68 rfl rfl (ret_imp (ref_buildI links pitch limit l A cp _ hc hlen hg (hl.now S)) (fun _ _ => built_none hW)) ?_; clear H a
    rintro _ _ a ⟨W, cw, rfl, S2⟩ H
    replace S := S.call S2; clear S2
    refine list_does H rfl (does_move rfl) ?_; clear H a; intro a H
    refine list_does H rfl (does_extract rfl rfl) ?_; clear H a; intro a H
    refine list_does H rfl (does_extract rfl rfl) ?_; clear H a; intro a H
    refine list_does H rfl (does_assign rfl) ?_; clear H a; intro a H
    refine list_does H rfl (does_assign rfl) ?_; clear H a; intro a H
    refine hK2 _ _ ?_
    clear hK2 K2
    replace H := H.keep [2, 5, 6] rfl
    refine seq_stillD (by kernel_rfl) (by kernel_rfl) (fun K3 hK3 => ?_)
    replace S := S.drew
    refine still_does H rfl (does_move rfl) ?_; clear H a; intro a H
    refine still_does H rfl (does_not rfl) ?_; clear H a; intro a H
    refine still_does H rfl (does_move rfl) ?_; clear H a; intro a H
    refine still_no H rfl rfl rfl rfl ?_; clear H a; intro a H
    refine still_no H rfl rfl rfl rfl ?_; clear H a; intro a H
    refine still_no H rfl rfl rfl rfl ?_; clear H a; intro a H
    refine still_no H rfl rfl rfl rfl ?_; clear H a; intro a H
    refine still_un H rfl rfl rfl ?_; clear H a; intro a H
    refine still_un H rfl rfl rfl ?_; clear H a; intro a H
    refine still_un H rfl rfl rfl ?_; clear H a; intro a H
    refine still_un H rfl rfl rfl ?_; clear H a; intro a H
    refine still_un H rfl rfl rfl ?_; clear H a; intro a H
    refine still_un H rfl rfl rfl ?_; clear H a; intro a H
    refine still_un H rfl rfl rfl ?_; clear H a; intro a H
    refine still_un H rfl rfl rfl ?_; clear H a; intro a H
    refine still_un H rfl rfl rfl ?_; clear H a; intro a H
    refine still_un H rfl rfl rfl ?_; clear H a; intro a H
    refine still_un H rfl rfl rfl ?_; clear H a; intro a H
    refine still_un H rfl rfl rfl ?_; clear H a; intro a H
    refine still_no H rfl rfl rfl rfl ?_; clear H a; intro a H
    refine still_does H rfl (by first | exact does_or rfl rfl rfl | exact does_pick rfl rfl rfl) ?_; clear H a; intro a H
    refine still_does H rfl (does_assign rfl) ?_; clear H a; intro a H
    refine wpStill_nil (hK3 _ ?_)
    clear hK3 K3
    refine wp_ret ?_
    refine ret1 (fn := Try.f81) rfl H rfl ?_
    exact ⟨rfl, (S.sel [] rfl rfl)⟩
  · skip
    replace H := H.keep [1, 2] rfl
    refine seq_list (fun K4 hK4 => ?_)
    refine list_does H rfl (by first | exact does_field_pt fo_120_0 rfl | exact does_field fo_120_0 rfl) ?_; clear H a; intro a H
    refine list_does H rfl (by first | exact does_loadBox agg_23 sz_23 rfl S (i := 0) rfl rfl) ?_; clear H a; intro a H
    refine list_does H rfl (does_move rfl) ?_; clear H a; intro a H
    refine list_call H rfl rfl Try.func68 rfl rfl (ret_imp (ref_buildI links pitch limit l A cp _ hc hlen hg (hl.now S)) (fun _ _ => built_some hW)) ?_; clear H a
    rintro _ _ a ⟨W, cw, rb, rc, rfl, S2⟩ H
    replace S := S.call S2; clear S2
    refine list_does H rfl (does_move rfl) ?_; clear H a; intro a H
    refine list_does H rfl (does_extract rfl rfl) ?_; clear H a; intro a H
    refine list_does H rfl (does_extract rfl rfl) ?_; clear H a; intro a H
    refine list_does H rfl (does_assign rfl) ?_; clear H a; intro a H
    refine list_does H rfl (does_assign rfl) ?_; clear H a; intro a H
    refine hK4 _ _ ?_
    clear hK4 K4
    replace H := H.keep [2, 5, 6] rfl
    refine seq_stillD (by kernel_rfl) (by kernel_rfl) (fun K5 hK5 => ?_)
    replace S := S.drew
    refine still_does H rfl (does_move rfl) ?_; clear H a; intro a H
    refine still_does H rfl (does_not rfl) ?_; clear H a; intro a H
    refine still_does H rfl (does_move rfl) ?_; clear H a; intro a H
    refine still_yes H rfl rfl ?_
    refine still_does H rfl (by first | exact does_field_pt fo_120_4 rfl | exact does_field fo_120_4 rfl) ?_; clear H a; intro a H
    refine still_yes H rfl rfl ?_
    refine still_does H rfl (does_load one_4 rfl (by first | exact ownM.rd S (i := 0) rfl (by omega) (by omega) | exact rowsM.rd S (i := 1) rfl (by omega) (by omega) | exact boxM.rd S (i := 0) rfl rfl | exact boxM.rd S (i := 1) rfl rfl | exact boxM.rd S (i := 2) rfl rfl)) ?_; clear H a; intro a H
    refine still_yes H rfl rfl ?_
    refine still_does H rfl (does_not rfl) ?_; clear H a; intro a H
    refine still_yes H rfl rfl ?_
    refine still_does H rfl (does_move rfl) ?_; clear H a; intro a H
    apply still_guard (i := 6) (g := 20) (t := 32) (b := true) 12 H rfl rfl (by kernel_rfl) (by kernel_rfl) rfl rfl
    case h1 =>
      intro hg7
      refine still_yes' H rfl rfl (by assumption) ?_
      refine still_does H rfl (does_move rfl) ?_; intro a H
      refine still_yes' H rfl rfl (by assumption) ?_
      refine still_does H rfl (by first | exact does_field_pt fo_120_1 rfl | exact does_field fo_120_1 rfl) ?_; intro a H
      refine still_yes' H rfl rfl (by assumption) ?_
      refine still_does H rfl (does_load one_3 rfl (by first | exact ownM.rd S (i := 0) rfl (by omega) (by omega) | exact rowsM.rd S (i := 1) rfl (by omega) (by omega) | exact boxM.rd S (i := 0) rfl rfl | exact boxM.rd S (i := 1) rfl rfl | exact boxM.rd S (i := 2) rfl rfl)) ?_; intro a H
      refine still_yes' H rfl rfl (by assumption) ?_
      refine still_does H rfl (by first | exact does_indexN sl_101 sz_29 rfl rfl (by first | exact ownM.adr S (i := 0) rfl (by omega) | exact rfl) (by first | omega | omega) | exact does_index sl_101 sz_29 rfl rfl (by first | exact ownM.adr S (i := 0) rfl (by omega) | exact rfl) (by omega) (by first | omega | omega)) ?_; intro a H
      refine still_yes' H rfl rfl (by assumption) ?_
      refine still_does H rfl (does_load one_29 rfl (by first | exact ownM.rd S (i := 0) rfl (by omega) (by omega) | exact rowsM.rd S (i := 1) rfl (by omega) (by omega) | exact boxM.rd S (i := 0) rfl rfl | exact boxM.rd S (i := 1) rfl rfl | exact boxM.rd S (i := 2) rfl rfl)) ?_; intro a H
      refine still_yes' H rfl rfl (by assumption) ?_
      refine still_does H rfl (by first | exact does_field_pt fo_120_2 rfl | exact does_field fo_120_2 rfl) ?_; intro a H
      refine still_yes' H rfl rfl (by assumption) ?_
      refine still_does H rfl (does_load one_3 rfl (by first | exact ownM.rd S (i := 0) rfl (by omega) (by omega) | exact rowsM.rd S (i := 1) rfl (by omega) (by omega) | exact boxM.rd S (i := 0) rfl rfl | exact boxM.rd S (i := 1) rfl rfl | exact boxM.rd S (i := 2) rfl rfl)) ?_; intro a H
      refine still_yes' H rfl rfl (by assumption) ?_
      refine still_does H rfl (by first | exact does_indexN sl_29 sz_3 rfl rfl (by first | exact ownM.adr S (i := 0) rfl (by omega) | exact rfl) (by first | omega | omega) | exact does_index sl_29 sz_3 rfl rfl (by first | exact ownM.adr S (i := 0) rfl (by omega) | exact rfl) (by omega) (by first | omega | omega)) ?_; intro a H
      refine still_yes' H rfl rfl (by assumption) ?_
      refine still_does H rfl (does_load one_3 rfl (by first | exact ownM.rd S (i := 0) rfl (by omega) (by omega) | exact rowsM.rd S (i := 1) rfl (by omega) (by omega) | exact boxM.rd S (i := 0) rfl rfl | exact boxM.rd S (i := 1) rfl rfl | exact boxM.rd S (i := 2) rfl rfl)) ?_; intro a H
      refine still_yes' H rfl rfl (by assumption) ?_
      refine still_does H rfl (by first | exact does_field_pt fo_120_3 rfl | exact does_field fo_120_3 rfl) ?_; intro a H
      refine still_yes' H rfl rfl (by assumption) ?_
      refine still_does H rfl (does_load one_3 rfl (by first | exact ownM.rd S (i := 0) rfl (by omega) (by omega) | exact rowsM.rd S (i := 1) rfl (by omega) (by omega) | exact boxM.rd S (i := 0) rfl rfl | exact boxM.rd S (i := 1) rfl rfl | exact boxM.rd S (i := 2) rfl rfl)) ?_; intro a H
      refine still_yes' H rfl rfl (by assumption) ?_
      refine still_does H rfl (does_leq rfl rfl) ?_; intro a H
      exact wpStill_nil (H.strip 12 rfl rfl)
    case k =>
      clear H a; intro a H
      refine still_yes H rfl rfl ?_
      refine still_does H rfl (by first | exact does_and rfl rfl rfl | exact does_pick rfl rfl rfl) ?_; clear H a; intro a H
      refine still_does H rfl (by first | exact does_or rfl rfl rfl | exact does_pick rfl rfl rfl) ?_; clear H a; intro a H
      refine still_does H rfl (does_assign rfl) ?_; clear H a; intro a H
      refine wpStill_nil (hK5 _ ?_)
      clear hK5 K5
      refine wp_ret ?_
      refine ret1 (fn := Try.f81) rfl H rfl ?_
      exact ⟨rfl, (S.sel [] rfl rfl)⟩

set_option maxRecDepth 100000 in
set_option maxHeartbeats 1000000 in
theorem ref_needed (links pitch limit : Int) (fr to : Nat) (most : Int) (apart : Bool) (l : List Gauge) (A : Option Addr) (cp : Nat) (suf : (Nat → Bool) → Bool) (w : World) (hsuf : suf = (sufP (⟨links, pitch, limit⟩ : Chain) l fr to most apart)) (hk : checkE (⟨links, pitch, limit⟩ : Chain) l = 0) (hfr : fr ≤ links.toNat) (hto : to ≤ links.toNat) (hl : InS w noF 4 A l.length (gcell l)) :
    Calls Try.prog 82 [.slice A l.length cp, .agg [.int .i64 links, .int .i64 pitch, .int .i64 limit, .int .i64 (fr : Int), .int .i64 (to : Int), .int .i64 most, .bool apart].toArray].toArray w (Ret (fun v w' => ∃ A' c', v = .slice A' (spK suf l.length).length c' ∧ St w noF [ownM 3 1 A' (spK suf l.length).length c' (ncl (spK suf l.length))] w')) := by
  have hmx : maxLen = 9223372036854775807 := rfl
  have hck := checkE_ok hk; have hlen := hck.2.1
  refine enter Try.func82 rfl Try.ntmps82 rfl (fun a H => ?_)
  have S := St.start w
  refine seq_list (fun K1 hK1 => ?_)
  refine list_box H rfl S rfl rfl ?_; clear H a S; intro b3 _ a hb3 hbw3 S H
  refine list_does H rfl (does_assign rfl) ?_; clear H a; intro a H
  refine hK1 _ _ ?_
  clear hK1 K1
  replace H := H.keep [0, 3] rfl
  refine seq_still (fun K2 hK2 => ?_)
  refine still_does H rfl (does_assign rfl) ?_; clear H a; intro a H
  refine wpStill_nil (hK2 _ ?_)
  clear hK2 K2
  refine wp_seq_k (fun K3 hK3 => ?_)
  replace H := H.keep [0, 3, 5] rfl
  refine seq_still (fun K4 hK4 => ?_)
  refine still_does H rfl (does_assign rfl) ?_; clear H a; intro a H
  refine wpStill_nil (hK4 _ ?_)
  clear hK4 K4
  refine wp_block ?_
  replace S := S.newNil 3 1 (fun q _ => .int .i64 ((q : Nat) : Int))
  refine loop_st (X := Nat × Option Addr × Nat) (R0 := _) [0, 3] H rfl (fun ⟨i, A', c'⟩ => [(5, .slice A' i c'), (6, .int .i64 (i : Int))]) (fun ⟨i, A', c'⟩ => [ownM 3 1 A' i c' (fun q _ => .int .i64 ((q : Nat) : Int))]) (fun g ⟨i, A', c'⟩ => i ≤ l.length ∧ g + i = l.length) (l.length) (0, none, 0) ?_ (S.sel [0, 1] rfl rfl) (H.keep [5, 6, 0, 3] rfl) ?_
  · exact ⟨by omega, by omega⟩
  · intro g1 x1 a w1 hp S H K5 hK5
    obtain ⟨i, A', c'⟩ := x1
    dsimp only at hp S H
    refine wp_seq_k (fun K6 hK6 => ?_)
    replace H := H.keep [0, 3, 5, 6] rfl
    refine seq_still (fun K7 hK7 => ?_)
    refine still_does H rfl (does_move rfl) ?_; clear H a; intro a H
    refine still_does H rfl (does_move rfl) ?_; clear H a; intro a H
    refine still_does H rfl (does_len sl_24 rfl) ?_; clear H a; intro a H
    refine still_does H rfl (does_lss rfl rfl) ?_; clear H a; intro a H
    refine wpStill_nil (hK7 _ ?_)
    clear hK7 K7
    refine cond_ H rfl (fun hc1 => ?_) (fun hc1 => ?_)
    · try simp only [Bool.or_eq_true, Bool.and_eq_true, Bool.not_eq_true', Bool.or_eq_false_iff, Bool.and_eq_false_iff, Bool.not_eq_false', decide_eq_true_eq, decide_eq_false_iff_not, Int.not_lt, Int.not_le] at hc1
      refine wp_skip ?_
      refine hK6 _ _ ?_
      refine wp_seq_k (fun K8 hK8 => ?_)
      refine wp_block ?_
      replace H := H.keep [0, 3, 5, 6] rfl
      refine one_list ?_
      refine list_does H rfl (does_move rfl) ?_; clear H a; intro a H
      refine list_does H rfl (does_move rfl) ?_; clear H a; intro a H
      refine list_build' H rfl S sl_29 sz_3 ze_3 rfl rfl rfl rfl rfl rfl rfl rfl rfl ?_; clear H a S; intro A1 _ a hA1 S H
      refine list_append H rfl S sl_29 sz_3 ze_3 by_3 rfl rfl (i := 1) rfl rfl rfl (ownM.inS S (i := 0) rfl) (one_vs (one rfl)) (by omega) (by omega) ?_; clear H a S; intro A2 c2 _ a S H
      replace S := S.recell (i := 1) rfl (capp_one (one rfl))
      refine list_does H rfl (does_assign rfl) ?_; clear H a; intro a H
      refine hK8 _ _ ?_
      replace H := H.keep [0, 3, 5, 6] rfl
      refine one_still ?_
      refine still_does H rfl (does_move rfl) ?_; clear H a; intro a H
      refine still_does H rfl (does_add rfl rfl (by unfold i64ok; omega)) ?_; clear H a; intro a H
      refine still_does H rfl (does_assign rfl) ?_; clear H a; intro a H
      refine wpStill_nil ?_
      exact hK5 (g1 - 1) (i + 1, _, _) a _ (by omega) (by omega) (S.sel [1, 2] rfl rfl) (H.keep [5, 6, 0, 3] rfl)
    · try simp only [Bool.or_eq_true, Bool.and_eq_true, Bool.not_eq_true', Bool.or_eq_false_iff, Bool.and_eq_false_iff, Bool.not_eq_false', decide_eq_true_eq, decide_eq_false_iff_not, Int.not_lt, Int.not_le] at hc1
      refine wp_exit ?_
      refine hK3 _ _ ?_
      replace H := H.keep [0, 3, 5] rfl
      refine seq_still (fun K11 hK11 => ?_)
      refine still_does H rfl (does_assign rfl) ?_; clear H a; intro a H
      refine wpStill_nil (hK11 _ ?_)
      clear hK11 K11
      refine wp_seq_k (fun K12 hK12 => ?_)
      refine wp_block ?_
      have hi9 : i = l.length := by omega
      subst hi9
      replace S := S.recell (i := 0) rfl (cell' := ncl (leftN suf l.length 0)) (fun q j hq hj => by rw [leftN_zero]; unfold ncl; rw [List.getD_eq_getElem?_getD, List.getElem?_range hq]; rfl)
      refine loop_st (X := Nat × Option Addr × Nat × Nat) (R0 := _) [0, 3] H rfl (fun ⟨i, A', n', c'⟩ => [(5, .slice A' n' c'), (7, .int .i64 (((spK suf i).length : Nat) : Int))]) (fun ⟨i, A', n', c'⟩ => [ownM 3 1 A' n' c' (ncl (leftN suf l.length i))]) (fun g ⟨i, A', n', c'⟩ => i ≤ l.length ∧ g + i = l.length ∧ n' = (leftN suf l.length i).length) (l.length) (0, A', l.length, c') ?_ (S.sel [0, 1] rfl rfl) (H.keep [5, 7, 0, 3] rfl) ?_
      · exact ⟨by omega, by omega, by rw [leftN_zero, List.length_range]⟩
      · intro g2 x2 a w2 hp S H K13 hK13
        obtain ⟨i, A', n', c'⟩ := x2
        dsimp only at hp S H
        have hn' := hp.2.2
        subst hn'
        have hlf := leftN_len (suf := suf) (n := l.length) (i := i); have hkl := spK_len (suf := suf) i; have hz9 : (spK suf i).length - 0 = (spK suf i).length := Nat.sub_zero _
        refine wp_seq_k (fun K14 hK14 => ?_)
        replace H := H.keep [0, 3, 5, 7] rfl
        refine seq_still (fun K15 hK15 => ?_)
        refine still_does H rfl (does_move rfl) ?_; clear H a; intro a H
        refine still_does H rfl (does_move rfl) ?_; clear H a; intro a H
        refine still_does H rfl (does_len sl_29 rfl) ?_; clear H a; intro a H
        refine still_does H rfl (does_lss rfl rfl) ?_; clear H a; intro a H
        refine wpStill_nil (hK15 _ ?_)
        clear hK15 K15
        refine cond_ H rfl (fun hc2 => ?_) (fun hc2 => ?_)
        · try simp only [Bool.or_eq_true, Bool.and_eq_true, Bool.not_eq_true', Bool.or_eq_false_iff, Bool.and_eq_false_iff, Bool.not_eq_false', decide_eq_true_eq, decide_eq_false_iff_not, Int.not_lt, Int.not_le] at hc2
          refine wp_skip ?_
          refine hK14 _ _ ?_
          refine wp_block ?_
          have hlf := leftN_len (suf := suf) (n := l.length) (i := i)
          have hwe := wo_left (suf := suf) (l := l) (i := i) (by omega)
          have hwg : (wo l (leftN suf l.length i) (spK suf i).length).all (gaugeOk links) = true := by rw [hwe]; exact sub_ok hck.2.2
          have hwl : (wo l (leftN suf l.length i) (spK suf i).length).length ≤ l.length := by rw [hwe]; exact sub_len
          have hq : sufM (weaveW (⟨links, pitch, limit⟩ : Chain) (wo l (leftN suf l.length i) (spK suf i).length) yes) fr to most apart = suf (keepP (i + 1) (spK suf i)) := by rw [hwe, ← weave_sub, hsuf]; rfl
          replace H := H.keep [0, 3, 5, 7] rfl
          replace S := S.drew
          refine seq_wq [(0, true), (1, true), (2, true), (3, true), (4, false), (5, false)] (by kernel_rfl) (by kernel_rfl) (S.sel [0, 1] rfl rfl) (fun K16 hK16 => ?_)
          refine wq_does H rfl rfl (fun _ S => by first | exact does_loadBox agg_120 sz_120 rfl S (i := 0) rfl rfl | exact does_loadBox agg_120 sz_120 rfl S (i := 1) rfl rfl) ?_; clear H a; intro a H
          refine wq_does H rfl rfl (fun _ S => does_move rfl) ?_; clear H a; intro a H
          refine wq_does H rfl rfl (fun _ S => does_move rfl) ?_; clear H a; intro a H
          refine wq_does H rfl rfl (fun _ S => does_move rfl) ?_; clear H a; intro a H
          refine wq_eff rfl ?_
          refine list_call H rfl rfl Try.func91 rfl rfl (ref_without l A cp (leftN suf l.length i) A' c' (spK suf i).length _ (hl.now S) (ownM.inS S (i := 0) rfl) (fun k hk => left_in (by omega) hk) (by omega) (by omega)) ?_; clear H a
          rintro _ _ a ⟨A3, c3, rfl, S2⟩ H
          replace S := S.call S2; clear S2
          refine wpList_nil (And.intro (S.sel [1, 2] rfl rfl) ?_)
          refine wq_eff rfl ?_
          refine list_call H rfl rfl Try.func81 rfl rfl (ref_holds links pitch limit fr to most apart _ A3 c3 _ hck.1 hwg (by omega) hfr hto (ownM.inS S (i := 0) rfl)) ?_; clear H a
          rintro _ _ a ⟨rfl, S2⟩ H
          replace S := S.call S2; clear S2
          rw [hq] at H
          refine wpList_nil (And.intro (S.sel [1, 2] rfl rfl) ?_)
          refine wq_nil ?_
          refine hK16 _ _ ?_
          clear hK16 K16
          refine cond_ H rfl (fun hc3 => ?_) (fun hc3 => ?_)
          · skip
            replace H := H.keep [0, 3, 5, 7] rfl
            replace S := S.drew
            refine one_wq [(1, true), (2, true), (3, true), (5, true), (6, true), (7, true), (8, true), (0, false), (4, false), (9, false), (10, true)] (by kernel_rfl) (by kernel_rfl) (S.sel [0, 1, 2] rfl rfl) ?_
            refine wq_does H rfl rfl (fun _ S => does_move rfl) ?_; clear H a; intro a H
            refine wq_does H rfl rfl (fun _ S => does_move rfl) ?_; clear H a; intro a H
            refine wq_does H rfl rfl (fun _ S => does_slice sl_29 sz_3 rfl (lo := 0) (hi := (spK suf i).length) (.inl ⟨rfl, rfl⟩) (.inr ⟨_, rfl, _, rfl⟩) (by omega) (by have := (ownM.le S (i := 1) rfl).1; omega)) ?_; clear H a; intro a H
            refine wq_does H rfl rfl (fun _ S => does_move rfl) ?_; clear H a; intro a H
            refine wq_does H rfl rfl (fun _ S => does_move rfl) ?_; clear H a; intro a H
            refine wq_does H rfl rfl (fun _ S => does_add rfl rfl (by unfold i64ok; omega)) ?_; clear H a; intro a H
            refine wq_does H rfl rfl (fun _ S => does_slice sl_29 sz_3 rfl (lo := (spK suf i).length + 1) (hi := (leftN suf l.length i).length) (.inr ⟨_, rfl, _, rfl⟩) (.inl ⟨rfl, rfl⟩) (by omega) (by have := (ownM.le S (i := 1) rfl).1; omega)) ?_; clear H a; intro a H
            refine wq_eff rfl ?_
            refine list_build0 H rfl S sl_29 sz_3 (ncl (leftN suf l.length i)) ?_; clear H a S; intro A3 _ a S H
            refine wpList_nil (And.intro (S.sel [1, 2, 3] rfl rfl) ?_)
            refine wq_eff rfl ?_
            refine list_append H rfl S sl_29 sz_3 ze_3 by_3 rfl rfl (i := 0) rfl rfl rfl (((ownM.inS S (i := 2) rfl).cut (lo := 0) (hi := (spK suf i).length) (Nat.zero_le _) (by omega) (ownM.le S (i := 2) rfl).1)) (fun _ _ _ _ => rfl) (by omega) (by omega) ?_; clear H a S; intro A4 c4 _ a S H
            replace S := S.recell (i := 0) rfl (cell' := ncl ((leftN suf l.length i).take (spK suf i).length)) (fun q j hq hj => by
              unfold capp; rw [if_neg (by omega)]; show ncl (leftN suf l.length i) (0 + (q - 0)) j = _; rw [Nat.zero_add, Nat.sub_zero]; exact ncl_take q j (by omega) hj)
            refine wpList_nil (And.intro (S.sel [1, 2, 3] rfl rfl) ?_)
            refine wq_eff rfl ?_
            refine list_append H rfl S sl_29 sz_3 ze_3 by_3 rfl rfl (i := 0) rfl rfl rfl (((ownM.inS S (i := 2) rfl).cut (lo := (spK suf i).length + 1) (hi := (leftN suf l.length i).length) (by omega) (Nat.le_refl _) (ownM.le S (i := 2) rfl).1)) (fun _ _ _ _ => rfl) (by omega) (by omega) ?_; clear H a S; intro A5 c5 _ a S H
            have e5 := leftN_drop (suf := suf) (n := l.length) (i := i) (by omega) hc3
            have e6 : ((leftN suf l.length i).take (spK suf i).length).length = (spK suf i).length := by rw [List.length_take]; omega
            have e7 : ((leftN suf l.length i).drop ((spK suf i).length + 1)).length = (leftN suf l.length i).length - ((spK suf i).length + 1) := List.length_drop
            have e8 : 0 + ((spK suf i).length - 0) + ((leftN suf l.length i).length - ((spK suf i).length + 1)) = (leftN suf l.length (i + 1)).length := by rw [← e5, List.length_append, e6, e7]; omega
            replace S := S.recell (i := 0) rfl (cell' := ncl (leftN suf l.length (i + 1))) (fun q j hq hj => by
              rw [← e5]; exact ncl_join (by omega) (fun _ _ _ _ => rfl) (fun q j hq hj => ncl_drop q j hq hj) q j (by omega) hj)
            rw [e8] at S H
            refine wpList_nil (And.intro (S.sel [1, 2, 3] rfl rfl) ?_)
            refine wq_does H rfl rfl (fun _ S => does_assign rfl) ?_; clear H a; intro a H
            refine wq_nil ?_
            first | (have hnx := spK_yes hc3; rw [← hnx] at H) | (have e9 : (((spK suf i).length : Nat) : Int) + 1 = (((spK suf (i + 1)).length : Nat) : Int) := (by rw [spK_no hc3]; simp); rw [e9] at H; rw [leftN_next (by omega) hc3] at S H)
            exact hK13 (g2 - 1) (i + 1, _, (leftN suf l.length (i + 1)).length, _) a _ (by omega) (⟨by omega, by omega, rfl⟩) (S.sel [0, 3] rfl rfl) (H.keep [5, 7, 0, 3] rfl)
          · skip
            replace H := H.keep [0, 3, 5, 7] rfl
            refine one_still ?_
            refine still_does H rfl (does_move rfl) ?_; clear H a; intro a H
            refine still_does H rfl (does_add rfl rfl (by unfold i64ok; omega)) ?_; clear H a; intro a H
            refine still_does H rfl (does_assign rfl) ?_; clear H a; intro a H
            refine wpStill_nil ?_
            first | (have hnx := spK_yes hc3; rw [← hnx] at H) | (have e9 : (((spK suf i).length : Nat) : Int) + 1 = (((spK suf (i + 1)).length : Nat) : Int) := (by rw [spK_no hc3]; simp); rw [e9] at H; rw [leftN_next (by omega) hc3] at S H)
            exact hK13 (g2 - 1) (i + 1, _, (leftN suf l.length (i + 1)).length, _) a _ (by omega) (⟨by omega, by omega, rfl⟩) (S.sel [1, 2] rfl rfl) (H.keep [5, 7, 0, 3] rfl)
        · try simp only [Bool.or_eq_true, Bool.and_eq_true, Bool.not_eq_true', Bool.or_eq_false_iff, Bool.and_eq_false_iff, Bool.not_eq_false', decide_eq_true_eq, decide_eq_false_iff_not, Int.not_lt, Int.not_le] at hc2
          refine wp_exit ?_
          refine hK12 _ _ ?_
          replace H := H.keep [5] rfl
          refine seq_still (fun K19 hK19 => ?_)
          refine still_does H rfl (does_move rfl) ?_; clear H a; intro a H
          refine still_does H rfl (does_assign rfl) ?_; clear H a; intro a H
          refine wpStill_nil (hK19 _ ?_)
          clear hK19 K19
          refine wp_ret ?_
          refine ret1 (fn := Try.f82) rfl H rfl ?_
          have hi9 : i = l.length := by omega
          subst hi9
          rw [leftN_end] at S H
          exact ⟨A', c', by rw [leftN_end], (S.sel [0] rfl rfl)⟩

set_option maxRecDepth 100000 in
set_option maxHeartbeats 1000000 in
theorem ref_Conflict (links pitch limit : Int) (l : List Gauge) (A : Option Addr) (cp : Nat) (w : World) (hl : InS w noF 4 A l.length (gcell l)) (hn : l.length ≤ 9223372036854775807) :
    Calls Try.prog 52 [.agg [.int .i64 links, .int .i64 pitch, .int .i64 limit].toArray, .slice A l.length cp].toArray w (Ret (ListR w (conO (⟨links, pitch, limit⟩ : Chain) l))) := by
  refine enter Try.func52 rfl Try.ntmps52 rfl (fun a H => ?_)
  have S := St.start w
  refine seq_list (fun K1 hK1 => ?_)
  refine list_box H rfl S rfl rfl ?_; clear H a S; intro b2 _ a hb2 hbw2 S H
  refine list_does H rfl (does_assign rfl) ?_; clear H a; intro a H
  refine list_does H rfl (does_assign rfl) ?_; clear H a; intro a H
  refine hK1 _ _ ?_
  clear hK1 K1
  replace H := H.keep [1, 2] rfl
  refine seq_list (fun K2 hK2 => ?_)
  refine list_does H rfl (by first | exact does_loadBox agg_23 sz_23 rfl S (i := 0) rfl rfl) ?_; clear H a; intro a H
  refine list_does H rfl (does_move rfl) ?_; clear H a; intro a H
  refine list_call H rfl rfl Try.func24 rfl rfl (ref_Check links pitch limit l A cp _ (hl.now S) hn) ?_; clear H a
  rintro _ _ a ⟨rfl, S2⟩ H
  replace S := S.call S2; clear S2
  refine list_does H rfl (does_assign rfl) ?_; clear H a; intro a H
  refine hK2 _ _ ?_
  clear hK2 K2
  refine wp_seq_k (fun K3 hK3 => ?_)
  replace H := H.keep [1, 2, 6] rfl
  refine seq_still (fun K4 hK4 => ?_)
  refine still_does H rfl (does_move rfl) ?_; clear H a; intro a H
  refine still_does H rfl (does_neq rfl rfl) ?_; clear H a; intro a H
  refine wpStill_nil (hK4 _ ?_)
  clear hK4 K4
  refine cond_ H rfl (fun hc1 => ?_) (fun hc1 => ?_)
  · try simp only [Bool.or_eq_true, Bool.and_eq_true, Bool.not_eq_true', Bool.or_eq_false_iff, Bool.and_eq_false_iff, Bool.not_eq_false', decide_eq_true_eq, decide_eq_false_iff_not, Int.not_lt, Int.not_le] at hc1
    replace H := H.keep [6] rfl
    refine seq_still (fun K5 hK5 => ?_)
    refine still_does H rfl (does_move rfl) ?_; clear H a; intro a H
    refine still_does H rfl (does_assign rfl) ?_; clear H a; intro a H
    refine still_does H rfl (does_assign rfl) ?_; clear H a; intro a H
    refine wpStill_nil (hK5 _ ?_)
    clear hK5 K5
    refine wp_ret ?_
    refine ret2 (fn := Try.f52) rfl H rfl rfl ?_
    show ListR _ _ _ _; rw [con_bad (by omega)]; exact ⟨rfl, (S.sel [] rfl rfl)⟩
  · try simp only [Bool.or_eq_true, Bool.and_eq_true, Bool.not_eq_true', Bool.or_eq_false_iff, Bool.and_eq_false_iff, Bool.not_eq_false', decide_eq_true_eq, decide_eq_false_iff_not, Int.not_lt, Int.not_le] at hc1
    refine wp_skip ?_
    refine hK3 _ _ ?_
    have hk : checkE (⟨links, pitch, limit⟩ : Chain) l = 0 := by omega
    have hck := checkE_ok hk; have hlen := hck.2.1
    have hcc := con_cases hk
    replace H := H.keep [1, 2] rfl
    refine seq_list (fun K6 hK6 => ?_)
    refine list_does H rfl (by first | exact does_loadBox agg_23 sz_23 rfl S (i := 0) rfl rfl) ?_; clear H a; intro a H
    refine list_does H rfl (does_build bt_120 rfl rfl) ?_; clear H a; intro a H
    refine list_alloc H rfl S ze_120 ?_; clear H a S; intro b7 _ a hb7 hbw7 S H
    first | (refine list_store H S (i := 0) rfl rfl rfl rfl sz_120 rfl rfl ?_) | (refine list_store H S (i := 1) rfl rfl rfl rfl sz_120 rfl rfl ?_) | (refine list_store_own H S (i := 0) rfl rfl rfl (by omega) (by omega) sz_120 rfl ?_) | (refine list_store_own H S (i := 1) rfl rfl rfl (by omega) (by omega) sz_120 rfl ?_)
    clear H a S; intro _ a S H
    refine hK6 _ _ ?_
    clear hK6 K6
    refine wp_seq_k (fun K7 hK7 => ?_)
    replace H := H.keep [1, 7] rfl
    refine seq_list (fun K8 hK8 => ?_)
    refine list_does H rfl (by first | exact does_loadBox agg_120 sz_120 rfl S (i := 0) rfl rfl | exact does_loadBox agg_120 sz_120 rfl S (i := 1) rfl rfl) ?_; clear H a; intro a H
    refine list_does H rfl (does_move rfl) ?_; clear H a; intro a H
    refine list_call H rfl rfl Try.func81 rfl rfl (ref_holds links pitch limit 0 0 0 true l A cp _ hck.1 hck.2.2 (by omega) (Nat.zero_le _) (Nat.zero_le _) (hl.now S)) ?_; clear H a
    rintro _ _ a ⟨rfl, S2⟩ H
    replace S := S.call S2; clear S2
    refine list_does H rfl (does_not rfl) ?_; clear H a; intro a H
    refine hK8 _ _ ?_
    clear hK8 K8
    refine cond_ H rfl (fun hc2 => ?_) (fun hc2 => ?_)
    · skip
      replace hc2 : sufM (weaveW (⟨links, pitch, limit⟩ : Chain) l yes) 0 0 0 true = false := by simpa using hc2
      replace H := H.keep [] rfl
      refine seq_still (fun K9 hK9 => ?_)
      refine still_does H rfl (does_assign rfl) ?_; clear H a; intro a H
      refine still_does H rfl (does_assign rfl) ?_; clear H a; intro a H
      refine wpStill_nil (hK9 _ ?_)
      clear hK9 K9
      refine wp_ret ?_
      refine ret2 (fn := Try.f52) rfl H rfl rfl ?_
      show ListR _ _ _ _; rw [hcc, hc2]; exact ⟨rfl, (S.sel [] rfl rfl)⟩
    · skip
      replace hc2 : sufM (weaveW (⟨links, pitch, limit⟩ : Chain) l yes) 0 0 0 true = true := by simpa using hc2
      refine wp_skip ?_
      refine hK7 _ _ ?_
      replace H := H.keep [1, 7] rfl
      refine seq_list (fun K10 hK10 => ?_)
      refine list_does H rfl (does_move rfl) ?_; clear H a; intro a H
      refine list_does H rfl (by first | exact does_loadBox agg_120 sz_120 rfl S (i := 0) rfl rfl | exact does_loadBox agg_120 sz_120 rfl S (i := 1) rfl rfl) ?_; clear H a; intro a H
      refine list_call H rfl rfl Try.func82 rfl rfl (ref_needed links pitch limit 0 0 0 true l A cp _ _ rfl hk (Nat.zero_le _) (Nat.zero_le _) (hl.now S)) ?_; clear H a
      rintro _ _ a ⟨A', c', rfl, S2⟩ H
      replace S := S.call S2; clear S2
      refine list_does H rfl (does_assign rfl) ?_; clear H a; intro a H
      refine list_does H rfl (does_assign rfl) ?_; clear H a; intro a H
      refine hK10 _ _ ?_
      clear hK10 K10
      refine wp_ret ?_
      refine ret2 (fn := Try.f52) rfl H rfl rfl ?_
      show ListR _ _ _ _; rw [hcc, hc2]; exact ⟨A', c', rfl, (S.sel [0] rfl rfl)⟩

set_option maxRecDepth 100000 in
set_option maxHeartbeats 1000000 in
theorem ref_Why (links pitch limit : Int) (l : List Gauge) (A : Option Addr) (cp : Nat) (xf xt most : Int) (w : World) (hl : InS w noF 4 A l.length (gcell l)) (hn : l.length ≤ 9223372036854775807) :
    Calls Try.prog 54 [.agg [.int .i64 links, .int .i64 pitch, .int .i64 limit].toArray, .slice A l.length cp, .int .i64 xf, .int .i64 xt, .int .i64 most].toArray w (Ret (ListR w (whyO (⟨links, pitch, limit⟩ : Chain) l xf xt most))) := by
  refine enter Try.func54 rfl Try.ntmps54 rfl (fun a H => ?_)
  have S := St.start w
  refine seq_list (fun K1 hK1 => ?_)
  refine list_box H rfl S rfl rfl ?_; clear H a S; intro b5 _ a hb5 hbw5 S H
  refine list_does H rfl (does_assign rfl) ?_; clear H a; intro a H
  refine list_does H rfl (does_assign rfl) ?_; clear H a; intro a H
  refine hK1 _ _ ?_
  clear hK1 K1
  replace H := H.keep [1, 2, 3, 4, 5] rfl
  refine seq_list (fun K2 hK2 => ?_)
  refine list_does H rfl (by first | exact does_loadBox agg_23 sz_23 rfl S (i := 0) rfl rfl) ?_; clear H a; intro a H
  refine list_does H rfl (does_move rfl) ?_; clear H a; intro a H
  refine list_call H rfl rfl Try.func24 rfl rfl (ref_Check links pitch limit l A cp _ (hl.now S) hn) ?_; clear H a
  rintro _ _ a ⟨rfl, S2⟩ H
  replace S := S.call S2; clear S2
  refine list_does H rfl (does_assign rfl) ?_; clear H a; intro a H
  refine hK2 _ _ ?_
  clear hK2 K2
  refine wp_seq_k (fun K3 hK3 => ?_)
  replace H := H.keep [1, 2, 3, 4, 5, 12] rfl
  refine seq_still (fun K4 hK4 => ?_)
  refine still_does H rfl (does_move rfl) ?_; clear H a; intro a H
  refine still_does H rfl (does_neq rfl rfl) ?_; clear H a; intro a H
  refine wpStill_nil (hK4 _ ?_)
  clear hK4 K4
  refine cond_ H rfl (fun hc1 => ?_) (fun hc1 => ?_)
  · try simp only [Bool.or_eq_true, Bool.and_eq_true, Bool.not_eq_true', Bool.or_eq_false_iff, Bool.and_eq_false_iff, Bool.not_eq_false', decide_eq_true_eq, decide_eq_false_iff_not, Int.not_lt, Int.not_le] at hc1
    replace H := H.keep [12] rfl
    refine seq_still (fun K5 hK5 => ?_)
    refine still_does H rfl (does_move rfl) ?_; clear H a; intro a H
    refine still_does H rfl (does_assign rfl) ?_; clear H a; intro a H
    refine still_does H rfl (does_assign rfl) ?_; clear H a; intro a H
    refine wpStill_nil (hK5 _ ?_)
    clear hK5 K5
    refine wp_ret ?_
    refine ret2 (fn := Try.f54) rfl H rfl rfl ?_
    show ListR _ _ _ _; unfold whyO; rw [if_pos (by omega)]; exact ⟨rfl, (S.sel [] rfl rfl)⟩
  · try simp only [Bool.or_eq_true, Bool.and_eq_true, Bool.not_eq_true', Bool.or_eq_false_iff, Bool.and_eq_false_iff, Bool.not_eq_false', decide_eq_true_eq, decide_eq_false_iff_not, Int.not_lt, Int.not_le] at hc1
    refine wp_skip ?_
    refine hK3 _ _ ?_
    refine wp_seq_k (fun K6 hK6 => ?_)
    have hk : checkE (⟨links, pitch, limit⟩ : Chain) l = 0 := by omega
    have hck := checkE_ok hk; have hlen := hck.2.1
    replace H := H.keep [1, 2, 3, 4, 5] rfl
    refine seq_still (fun K7 hK7 => ?_)
    refine still_does H rfl (does_move rfl) ?_; clear H a; intro a H
    refine still_does H rfl (does_lss rfl rfl) ?_; clear H a; intro a H
    refine still_does H rfl (does_move rfl) ?_; clear H a; intro a H
    apply still_guard (i := 2) (g := 22) (t := 25) (b := false) 3 H rfl rfl (by kernel_rfl) (by kernel_rfl) rfl rfl
    case h1 =>
      intro hg3
      refine still_yes' H rfl rfl (by assumption) ?_
      refine still_does H rfl (does_move rfl) ?_; intro a H
      refine still_yes' H rfl rfl (by assumption) ?_
      refine still_does H rfl (does_move rfl) ?_; intro a H
      refine still_yes' H rfl rfl (by assumption) ?_
      refine still_does H rfl (does_gtr rfl rfl) ?_; intro a H
      exact wpStill_nil (H.strip 3 rfl rfl)
    case k =>
      clear H a; intro a H
      refine still_does H rfl (by first | exact does_or rfl rfl rfl | exact does_pick rfl rfl rfl) ?_; clear H a; intro a H
      refine still_does H rfl (does_move rfl) ?_; clear H a; intro a H
      apply still_guard (i := 7) (g := 27) (t := 31) (b := false) 4 H rfl rfl (by kernel_rfl) (by kernel_rfl) rfl rfl
      case h1 =>
        intro hg8
        refine still_yes' H rfl rfl (by assumption) ?_
        refine still_does H rfl (does_move rfl) ?_; intro a H
        refine still_yes' H rfl rfl (by assumption) ?_
        refine still_does H rfl (by first | exact does_field_pt fo_23_0 rfl | exact does_field fo_23_0 rfl) ?_; intro a H
        refine still_yes' H rfl rfl (by assumption) ?_
        refine still_does H rfl (does_load one_3 rfl (by first | exact boxM.rd S (i := 0) rfl rfl)) ?_; intro a H
        refine still_yes' H rfl rfl (by assumption) ?_
        refine still_does H rfl (does_gtr rfl rfl) ?_; intro a H
        exact wpStill_nil (H.strip 4 rfl rfl)
      case k =>
        clear H a; intro a H
        refine still_does H rfl (by first | exact does_or rfl rfl rfl | exact does_pick rfl rfl rfl) ?_; clear H a; intro a H
        refine wpStill_nil (hK7 _ ?_)
        clear hK7 K7
        refine cond_ H rfl (fun hc2 => ?_) (fun hc2 => ?_)
        · try simp only [Bool.or_eq_true, Bool.and_eq_true, Bool.not_eq_true', Bool.or_eq_false_iff, Bool.and_eq_false_iff, Bool.not_eq_false', decide_eq_true_eq, decide_eq_false_iff_not, Int.not_lt, Int.not_le] at hc2
          replace H := H.keep [] rfl
          refine seq_still (fun K8 hK8 => ?_)
          refine still_does H rfl (does_assign rfl) ?_; clear H a; intro a H
          refine still_does H rfl (does_assign rfl) ?_; clear H a; intro a H
          refine wpStill_nil (hK8 _ ?_)
          clear hK8 K8
          refine wp_ret ?_
          refine ret2 (fn := Try.f54) rfl H rfl rfl ?_
          show ListR _ _ _ _; unfold whyO; rw [if_neg (by omega), isRun_false (by (try dsimp only); omega), if_neg (by simp)]; exact ⟨rfl, (S.sel [] rfl rfl)⟩
        · try simp only [Bool.or_eq_true, Bool.and_eq_true, Bool.not_eq_true', Bool.or_eq_false_iff, Bool.and_eq_false_iff, Bool.not_eq_false', decide_eq_true_eq, decide_eq_false_iff_not, Int.not_lt, Int.not_le] at hc2
          refine wp_skip ?_
          refine hK6 _ _ ?_
          have hrun := isRun_true (c := (⟨links, pitch, limit⟩ : Chain)) (a := xf) (b := xt) (by (try dsimp only); omega)
          obtain ⟨x1, rfl⟩ := Int.eq_ofNat_of_zero_le (show 0 ≤ xf by omega)
          obtain ⟨x2, rfl⟩ := Int.eq_ofNat_of_zero_le (show 0 ≤ xt by omega)
          have hx1 : x1 ≤ links.toNat := by omega
          have hx2 : x2 ≤ links.toNat := by omega
          replace H := H.keep [1, 2, 3, 4, 5] rfl
          refine seq_list (fun K9 hK9 => ?_)
          refine list_does H rfl (by first | exact does_loadBox agg_23 sz_23 rfl S (i := 0) rfl rfl) ?_; clear H a; intro a H
          refine list_does H rfl (does_move rfl) ?_; clear H a; intro a H
          refine list_does H rfl (does_move rfl) ?_; clear H a; intro a H
          refine list_does H rfl (does_move rfl) ?_; clear H a; intro a H
          refine list_does H rfl (does_build bt_120 rfl rfl) ?_; clear H a; intro a H
          refine list_alloc H rfl S ze_120 ?_; clear H a S; intro b13 _ a hb13 hbw13 S H
          first | (refine list_store H S (i := 0) rfl rfl rfl rfl sz_120 rfl rfl ?_) | (refine list_store H S (i := 1) rfl rfl rfl rfl sz_120 rfl rfl ?_) | (refine list_store_own H S (i := 0) rfl rfl rfl (by omega) (by omega) sz_120 rfl ?_) | (refine list_store_own H S (i := 1) rfl rfl rfl (by omega) (by omega) sz_120 rfl ?_)
          clear H a S; intro _ a S H
          refine hK9 _ _ ?_
          clear hK9 K9
          refine wp_seq_k (fun K10 hK10 => ?_)
          replace H := H.keep [1, 13] rfl
          refine seq_list (fun K11 hK11 => ?_)
          refine list_does H rfl (by first | exact does_loadBox agg_120 sz_120 rfl S (i := 0) rfl rfl | exact does_loadBox agg_120 sz_120 rfl S (i := 1) rfl rfl) ?_; clear H a; intro a H
          refine list_does H rfl (does_move rfl) ?_; clear H a; intro a H
          refine list_call H rfl rfl Try.func81 rfl rfl (ref_holds links pitch limit x1 x2 most false l A cp _ hck.1 hck.2.2 (by omega) hx1 hx2 (hl.now S)) ?_; clear H a
          rintro _ _ a ⟨rfl, S2⟩ H
          replace S := S.call S2; clear S2
          refine list_does H rfl (does_not rfl) ?_; clear H a; intro a H
          refine hK11 _ _ ?_
          clear hK11 K11
          refine cond_ H rfl (fun hc3 => ?_) (fun hc3 => ?_)
          · skip
            replace hc3 : sufP (⟨links, pitch, limit⟩ : Chain) l x1 x2 most false yes = false := by unfold sufP; simpa using hc3
            replace H := H.keep [] rfl
            refine seq_still (fun K12 hK12 => ?_)
            refine still_does H rfl (does_assign rfl) ?_; clear H a; intro a H
            refine still_does H rfl (does_assign rfl) ?_; clear H a; intro a H
            refine wpStill_nil (hK12 _ ?_)
            clear hK12 K12
            refine wp_ret ?_
            refine ret2 (fn := Try.f54) rfl H rfl rfl ?_
            show ListR _ _ _ _; unfold whyO; rw [if_neg (by omega), hrun, if_pos rfl, if_neg (by rw [show sufP (⟨links, pitch, limit⟩ : Chain) l ((x1 : Nat) : Int).toNat ((x2 : Nat) : Int).toNat most false yes = false from hc3]; simp)]; exact ⟨rfl, (S.sel [] rfl rfl)⟩
          · skip
            replace hc3 : sufP (⟨links, pitch, limit⟩ : Chain) l x1 x2 most false yes = true := by unfold sufP; simpa using hc3
            refine wp_skip ?_
            refine hK10 _ _ ?_
            replace H := H.keep [1, 13] rfl
            refine seq_list (fun K13 hK13 => ?_)
            refine list_does H rfl (does_move rfl) ?_; clear H a; intro a H
            refine list_does H rfl (by first | exact does_loadBox agg_120 sz_120 rfl S (i := 0) rfl rfl | exact does_loadBox agg_120 sz_120 rfl S (i := 1) rfl rfl) ?_; clear H a; intro a H
            refine list_call H rfl rfl Try.func82 rfl rfl (ref_needed links pitch limit x1 x2 most false l A cp _ _ rfl hk hx1 hx2 (hl.now S)) ?_; clear H a
            rintro _ _ a ⟨A', c', rfl, S2⟩ H
            replace S := S.call S2; clear S2
            refine list_does H rfl (does_assign rfl) ?_; clear H a; intro a H
            refine list_does H rfl (does_assign rfl) ?_; clear H a; intro a H
            refine hK13 _ _ ?_
            clear hK13 K13
            refine wp_ret ?_
            refine ret2 (fn := Try.f54) rfl H rfl rfl ?_
            show ListR _ _ _ _; unfold whyO; rw [if_neg (by omega), hrun, if_pos rfl, if_pos (show sufP (⟨links, pitch, limit⟩ : Chain) l ((x1 : Nat) : Int).toNat ((x2 : Nat) : Int).toNat most false yes = true from hc3)]; exact ⟨A', c', rfl, (S.sel [0] rfl rfl)⟩

end Go.Proofs.Ytlejjfhgfajoiaa
