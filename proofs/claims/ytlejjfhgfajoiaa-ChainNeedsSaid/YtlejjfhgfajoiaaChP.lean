/- ChP. Printed by gen.py. -/
import Derived.Test.YtlejjfhgfajoiaaChJ
namespace Go.Proofs.Ytlejjfhgfajoiaa
open Go.RowKit
set_option linter.unusedVariables false
set_option linter.unusedSimpArgs false


theorem whole00 {c : Chain} {l : List Gauge} : wholeO c l (isRunB c 0 0) = wholeO c l true := by
  unfold wholeO
  by_cases h : checkE c l = 0
  · have h1 := (checkE_ok h).1
    unfold chainOk at h1
    simp only [decide_eq_true_eq] at h1
    rw [show isRunB c 0 0 = true from isRun_true ⟨⟨by omega, by omega⟩, by omega⟩]
  · rw [if_pos h, if_pos h]
/-- A run is at least as long as it has links. -/
theorem run_pos {c : Chain} {l : List Gauge} {M : IM} {p : Nat → Bool} (hk : checkE c l = 0) (h : weaveW c l p = some M) : ∀ i d, i + d ≤ c.links.toNat → 0 < d → 0 < M i (i + d) := by
  intro i d hi hd
  obtain ⟨h1, _, h3⟩ := checkE_ok hk
  have hB := web_best h1 h3 h
  have hG := hB.good
  have h4 := h1
  unfold chainOk at h4
  simp only [decide_eq_true_eq] at h4
  have hn : c.n = c.links.toNat + 1 := rfl
  have hs := satG_links _ hB.sat
  have hr := run_bd hG (show c.links.toNat < c.n by omega) hs d i hi
  have t := hG.tri i (i + d) i (by omega) (by omega) (by omega)
  have t2 := hG.diag i (by omega)
  have e : (d : Int) * 1 ≤ d * c.pitch := Int.mul_le_mul_of_nonneg_left (by omega) (by omega)
  omega


set_option maxRecDepth 100000 in
set_option maxHeartbeats 1000000 in
theorem ref_Links (links pitch limit : Int) (l : List Gauge) (A : Option Addr) (cp : Nat) (w : World) (hl : InS w noF 4 A l.length (gcell l)) (hn : l.length ≤ 9223372036854775807) :
    Calls Try.prog 26 [.agg [.int .i64 links, .int .i64 pitch, .int .i64 limit].toArray, .slice A l.length cp].toArray w (Ret (fun v w' => match wholeO (⟨links, pitch, limit⟩ : Chain) l true with | .error e => v = .tuple #[.slice none 0 0, .int .i64 e] ∧ St w noF [] w' | .ok M => ∃ A' c', v = .tuple #[.slice A' links.toNat c', .int .i64 0] ∧ St w noF [ownM 42 2 A' links.toNat c' (sp2 (fun k => -(M (k + 1) k)) (fun k => M k (k + 1)))] w')) := by
  refine enter Try.func26 rfl Try.ntmps26 rfl (fun a H => ?_)
  have S := St.start w
  refine seq_list (fun K1 hK1 => ?_)
  refine list_box H rfl S rfl rfl ?_; clear H a S; intro b2 _ a hb2 hbw2 S H
  refine list_does H rfl (does_assign rfl) ?_; clear H a; intro a H
  refine list_does H rfl (does_assign rfl) ?_; clear H a; intro a H
  refine hK1 _ _ ?_
  clear hK1 K1
  rcases hW : wholeO (⟨links, pitch, limit⟩ : Chain) l (true) with e | M
  · skip
    have he := wholeO_err hW
    replace H := H.keep [1, 2] rfl
    refine seq_list (fun K2 hK2 => ?_)
    refine list_does H rfl (by first | exact does_loadBox agg_23 sz_23 rfl S (i := 0) rfl rfl) ?_; clear H a; intro a H
    refine list_does H rfl (does_move rfl) ?_; clear H a; intro a H
    refine list_call H rfl rfl Try.func65 rfl rfl (ret_imp (ref_checked links pitch limit l A cp 0 0 _ (hl.now S) hn) (fun _ _ => net_err (whole00.trans hW))) ?_; clear H a
    rintro _ _ a ⟨rfl, S2⟩ H
    replace S := S.call S2; clear S2
    refine list_does H rfl (does_move rfl) ?_; clear H a; intro a H
    refine list_does H rfl (does_extract rfl rfl) ?_; clear H a; intro a H
    refine list_does H rfl (does_extract rfl rfl) ?_; clear H a; intro a H
    refine list_does H rfl (does_assign rfl) ?_; clear H a; intro a H
    refine list_does H rfl (does_assign rfl) ?_; clear H a; intro a H
    refine hK2 _ _ ?_
    clear hK2 K2
    refine wp_seq_k (fun K3 hK3 => ?_)
    replace H := H.keep [2, 6, 7] rfl
    refine seq_still (fun K4 hK4 => ?_)
    refine still_does H rfl (does_move rfl) ?_; clear H a; intro a H
    refine still_does H rfl (does_neq rfl rfl) ?_; clear H a; intro a H
    refine wpStill_nil (hK4 _ ?_)
    clear hK4 K4
    refine cond_ H rfl (fun hc1 => ?_) (fun hc1 => ?_)
    · try simp only [Bool.or_eq_true, Bool.and_eq_true, Bool.not_eq_true', Bool.or_eq_false_iff, Bool.and_eq_false_iff, Bool.not_eq_false', decide_eq_true_eq, decide_eq_false_iff_not, Int.not_lt, Int.not_le] at hc1
      replace H := H.keep [7] rfl
      refine seq_still (fun K5 hK5 => ?_)
      refine still_does H rfl (does_move rfl) ?_; clear H a; intro a H
      refine still_does H rfl (does_assign rfl) ?_; clear H a; intro a H
      refine still_does H rfl (does_assign rfl) ?_; clear H a; intro a H
      refine wpStill_nil (hK5 _ ?_)
      clear hK5 K5
      refine wp_ret ?_
      refine ret2 (fn := Try.f26) rfl H rfl rfl ?_
      exact ⟨rfl, (S.sel [] rfl rfl)⟩
    · try simp only [Bool.or_eq_true, Bool.and_eq_true, Bool.not_eq_true', Bool.or_eq_false_iff, Bool.and_eq_false_iff, Bool.not_eq_false', decide_eq_true_eq, decide_eq_false_iff_not, Int.not_lt, Int.not_le] at hc1
      all_goals (exfalso; omega)
  · skip
    have hG := wholeO_good hW; have hC := hG.2; unfold chainOk at hC; simp only [decide_eq_true_eq] at hC
    obtain ⟨m, rfl⟩ := Int.eq_ofNat_of_zero_le (show 0 ≤ links by omega)
    have hG1 : Good (m + 1) M := hG.1; have hB : bdd (m + 1) 2199023255552 M := hG1.bdd; have hW1 := wholeO_ok hW
    
    have hbig : bdd (m + 1) 4611686018427387904 M := fun x y hx hy => by have := hB x y hx hy; omega
    have hk0 := checkE_ok hW1.1; have hC0 := hk0.1; have hg0 := hk0.2.2
    replace H := H.keep [1, 2] rfl
    refine seq_list (fun K6 hK6 => ?_)
    refine list_does H rfl (by first | exact does_loadBox agg_23 sz_23 rfl S (i := 0) rfl rfl) ?_; clear H a; intro a H
    refine list_does H rfl (does_move rfl) ?_; clear H a; intro a H
    refine list_call H rfl rfl Try.func65 rfl rfl (ret_imp (ref_checked m pitch limit l A cp 0 0 _ (hl.now S) hn) (fun _ _ => net_ok (n := m + 1) (whole00.trans hW))) ?_; clear H a
    rintro _ _ a ⟨W, cw, rb, rc, rfl, S2⟩ H
    replace S := S.call S2; clear S2
    refine list_does H rfl (does_move rfl) ?_; clear H a; intro a H
    refine list_does H rfl (does_extract rfl rfl) ?_; clear H a; intro a H
    refine list_does H rfl (does_extract rfl rfl) ?_; clear H a; intro a H
    refine list_does H rfl (does_assign rfl) ?_; clear H a; intro a H
    refine list_does H rfl (does_assign rfl) ?_; clear H a; intro a H
    refine hK6 _ _ ?_
    clear hK6 K6
    refine wp_seq_k (fun K7 hK7 => ?_)
    replace H := H.keep [2, 6, 7] rfl
    refine seq_still (fun K8 hK8 => ?_)
    refine still_does H rfl (does_move rfl) ?_; clear H a; intro a H
    refine still_does H rfl (does_neq rfl rfl) ?_; clear H a; intro a H
    refine wpStill_nil (hK8 _ ?_)
    clear hK8 K8
    refine cond_ H rfl (fun hc2 => ?_) (fun hc2 => ?_)
    · try simp only [Bool.or_eq_true, Bool.and_eq_true, Bool.not_eq_true', Bool.or_eq_false_iff, Bool.and_eq_false_iff, Bool.not_eq_false', decide_eq_true_eq, decide_eq_false_iff_not, Int.not_lt, Int.not_le] at hc2
      all_goals first | (exfalso; omega) | (simp at hc2)
    · try simp only [Bool.or_eq_true, Bool.and_eq_true, Bool.not_eq_true', Bool.or_eq_false_iff, Bool.and_eq_false_iff, Bool.not_eq_false', decide_eq_true_eq, decide_eq_false_iff_not, Int.not_lt, Int.not_le] at hc2
      refine wp_skip ?_
      refine hK7 _ _ ?_
      replace H := H.keep [2, 6] rfl
      refine seq_still (fun K9 hK9 => ?_)
      refine still_does H rfl (does_assign rfl) ?_; clear H a; intro a H
      refine wpStill_nil (hK9 _ ?_)
      clear hK9 K9
      refine wp_seq_k (fun K10 hK10 => ?_)
      replace H := H.keep [2, 6, 8] rfl
      refine seq_still (fun K11 hK11 => ?_)
      refine still_does H rfl (does_assign rfl) ?_; clear H a; intro a H
      refine wpStill_nil (hK11 _ ?_)
      clear hK11 K11
      refine wp_block ?_
      replace S := S.newNil 42 2 (sp2 (fun k => -(M (k + 1) k)) (fun k => M k (k + 1)))
      refine loop_st (X := Nat × Option Addr × Nat) (R0 := _) [2, 6] H rfl (fun ⟨k, A', c'⟩ => [(8, .slice A' k c'), (9, .int .i64 (k : Int))]) (fun ⟨k, A', c'⟩ => [ownM 42 2 A' k c' (sp2 (fun k => -(M (k + 1) k)) (fun k => M k (k + 1)))]) (fun g ⟨k, A', c'⟩ => k ≤ m ∧ g + k = m) (m) (0, none, 0) ?_ (S.sel [0, 1, 2, 3] rfl rfl) (H.keep [8, 9, 2, 6] rfl) ?_
      · exact ⟨by omega, by omega⟩
      · intro g1 x1 a w1 hp S H K12 hK12
        obtain ⟨k, A', c'⟩ := x1
        dsimp only at hp S H
        refine wp_seq_k (fun K13 hK13 => ?_)
        replace H := H.keep [2, 6, 8, 9] rfl
        refine seq_still (fun K14 hK14 => ?_)
        refine still_does H rfl (does_move rfl) ?_; clear H a; intro a H
        refine still_does H rfl (by first | exact does_field_pt fo_23_0 rfl | exact does_field fo_23_0 rfl) ?_; clear H a; intro a H
        refine still_does H rfl (does_load one_3 rfl (by first | exact boxM.rd S (i := 0) rfl rfl | exact boxM.rd S (i := 1) rfl rfl | exact boxM.rd S (i := 2) rfl rfl | exact boxM.rd S (i := 3) rfl rfl)) ?_; clear H a; intro a H
        refine still_does H rfl (does_lss rfl rfl) ?_; clear H a; intro a H
        refine wpStill_nil (hK14 _ ?_)
        clear hK14 K14
        refine cond_ H rfl (fun hc3 => ?_) (fun hc3 => ?_)
        · try simp only [Bool.or_eq_true, Bool.and_eq_true, Bool.not_eq_true', Bool.or_eq_false_iff, Bool.and_eq_false_iff, Bool.not_eq_false', decide_eq_true_eq, decide_eq_false_iff_not, Int.not_lt, Int.not_le] at hc3
          refine wp_skip ?_
          refine hK13 _ _ ?_
          refine wp_seq_k (fun K15 hK15 => ?_)
          refine wp_block ?_
          replace H := H.keep [2, 6, 8, 9] rfl
          refine one_list ?_
          refine list_does H rfl (does_move rfl) ?_; clear H a; intro a H
          refine list_does H rfl (does_move rfl) ?_; clear H a; intro a H
          refine list_does H rfl (does_move rfl) ?_; clear H a; intro a H
          refine list_does H rfl (does_move rfl) ?_; clear H a; intro a H
          refine list_does H rfl (does_add rfl rfl (by unfold i64ok; omega)) ?_; clear H a; intro a H
          have S1 := (S.sel [1, 2] rfl rfl)
          refine list_call H rfl rfl Try.func66 rfl rfl (net_run (m + 1) cw W rb rc M k (k + 1) _ _ S1.startR (by omega) (by omega) hbig) ?_; clear H a
          rintro _ _ a ⟨rfl, S2⟩ H
          replace S := (S.sel [1, 2, 0, 3] rfl rfl).callR (M := [_, _]) S2; clear S1 S2
          refine list_build' H rfl S sl_37 sz_42 ze_42 rfl rfl rfl rfl rfl rfl rfl rfl rfl ?_; clear H a S; intro A1 _ a hA1 S H
          refine list_append H rfl S sl_37 sz_42 ze_42 by_42 rfl rfl (i := 3) rfl rfl rfl (ownM.inS S (i := 0) rfl) (one_vs (two rfl rfl)) (by omega) (by omega) ?_; clear H a S; intro A2 c2 _ a S H
          replace S := S.recell (i := 3) rfl (capp_one (two rfl rfl))
          refine list_does H rfl (does_assign rfl) ?_; clear H a; intro a H
          refine hK15 _ _ ?_
          replace H := H.keep [2, 6, 8, 9] rfl
          refine one_still ?_
          refine still_does H rfl (does_move rfl) ?_; clear H a; intro a H
          refine still_does H rfl (does_add rfl rfl (by unfold i64ok; omega)) ?_; clear H a; intro a H
          refine still_does H rfl (does_assign rfl) ?_; clear H a; intro a H
          refine wpStill_nil ?_
          exact hK12 (g1 - 1) (k + 1, _, _) a _ (by omega) (by omega) (S.sel [3, 1, 2, 4] rfl rfl) (H.keep [8, 9, 2, 6] rfl)
        · try simp only [Bool.or_eq_true, Bool.and_eq_true, Bool.not_eq_true', Bool.or_eq_false_iff, Bool.and_eq_false_iff, Bool.not_eq_false', decide_eq_true_eq, decide_eq_false_iff_not, Int.not_lt, Int.not_le] at hc3
          refine wp_exit ?_
          refine hK10 _ _ ?_
          replace H := H.keep [8] rfl
          refine seq_still (fun K18 hK18 => ?_)
          refine still_does H rfl (does_move rfl) ?_; clear H a; intro a H
          refine still_does H rfl (does_assign rfl) ?_; clear H a; intro a H
          refine still_does H rfl (does_assign rfl) ?_; clear H a; intro a H
          refine wpStill_nil (hK18 _ ?_)
          clear hK18 K18
          refine wp_ret ?_
          refine ret2 (fn := Try.f26) rfl H rfl rfl ?_
          have hk9 : m = k := by omega
          subst hk9
          exact ⟨A', c', rfl, (S.sel [0] rfl rfl)⟩

set_option maxRecDepth 100000 in
set_option maxHeartbeats 1000000 in
theorem ref_Longest (links pitch limit : Int) (l : List Gauge) (A : Option Addr) (cp : Nat) (many : Int) (w : World) (hl : InS w noF 4 A l.length (gcell l)) (hn : l.length ≤ 9223372036854775807) :
    Calls Try.prog 31 [.agg [.int .i64 links, .int .i64 pitch, .int .i64 limit].toArray, .slice A l.length cp, .int .i64 many].toArray w (Ret (fun v w' => v = .tuple #[.int .i64 (longO (⟨links, pitch, limit⟩ : Chain) l many).1, .int .i64 (longO (⟨links, pitch, limit⟩ : Chain) l many).2.1, .int .i64 (longO (⟨links, pitch, limit⟩ : Chain) l many).2.2] ∧ St w noF [] w')) := by
  refine enter Try.func31 rfl Try.ntmps31 rfl (fun a H => ?_)
  have S := St.start w
  refine seq_list (fun K1 hK1 => ?_)
  refine list_box H rfl S rfl rfl ?_; clear H a S; intro b3 _ a hb3 hbw3 S H
  refine list_does H rfl (does_assign rfl) ?_; clear H a; intro a H
  refine list_does H rfl (does_assign rfl) ?_; clear H a; intro a H
  refine list_does H rfl (does_assign rfl) ?_; clear H a; intro a H
  refine hK1 _ _ ?_
  clear hK1 K1
  replace H := H.keep [1, 2, 3] rfl
  refine seq_list (fun K2 hK2 => ?_)
  refine list_does H rfl (by first | exact does_loadBox agg_23 sz_23 rfl S (i := 0) rfl rfl) ?_; clear H a; intro a H
  refine list_does H rfl (does_move rfl) ?_; clear H a; intro a H
  refine list_call H rfl rfl Try.func24 rfl rfl (ref_Check links pitch limit l A cp _ (hl.now S) hn) ?_; clear H a
  rintro _ _ a ⟨rfl, S2⟩ H
  replace S := S.call S2; clear S2
  refine list_does H rfl (does_assign rfl) ?_; clear H a; intro a H
  refine hK2 _ _ ?_
  clear hK2 K2
  refine wp_seq_k (fun K3 hK3 => ?_)
  replace H := H.keep [1, 2, 3, 9] rfl
  refine seq_still (fun K4 hK4 => ?_)
  refine still_does H rfl (does_move rfl) ?_; clear H a; intro a H
  refine still_does H rfl (does_neq rfl rfl) ?_; clear H a; intro a H
  refine wpStill_nil (hK4 _ ?_)
  clear hK4 K4
  refine cond_ H rfl (fun hc1 => ?_) (fun hc1 => ?_)
  · try simp only [Bool.or_eq_true, Bool.and_eq_true, Bool.not_eq_true', Bool.or_eq_false_iff, Bool.and_eq_false_iff, Bool.not_eq_false', decide_eq_true_eq, decide_eq_false_iff_not, Int.not_lt, Int.not_le] at hc1
    replace H := H.keep [9] rfl
    refine seq_still (fun K5 hK5 => ?_)
    refine still_does H rfl (does_move rfl) ?_; clear H a; intro a H
    refine still_does H rfl (does_assign rfl) ?_; clear H a; intro a H
    refine still_does H rfl (does_assign rfl) ?_; clear H a; intro a H
    refine still_does H rfl (does_assign rfl) ?_; clear H a; intro a H
    refine wpStill_nil (hK5 _ ?_)
    clear hK5 K5
    refine wp_ret ?_
    refine ret3 (fn := Try.f31) rfl H rfl rfl rfl ?_
    exact ⟨by unfold longO wholeO; rw [if_pos (by omega)], (S.sel [] rfl rfl)⟩
  · try simp only [Bool.or_eq_true, Bool.and_eq_true, Bool.not_eq_true', Bool.or_eq_false_iff, Bool.and_eq_false_iff, Bool.not_eq_false', decide_eq_true_eq, decide_eq_false_iff_not, Int.not_lt, Int.not_le] at hc1
    refine wp_skip ?_
    refine hK3 _ _ ?_
    refine wp_seq_k (fun K6 hK6 => ?_)
    replace H := H.keep [1, 2, 3] rfl
    refine seq_still (fun K7 hK7 => ?_)
    refine still_does H rfl (does_move rfl) ?_; clear H a; intro a H
    refine still_does H rfl (by first | exact does_field_pt fo_23_0 rfl | exact does_field fo_23_0 rfl) ?_; clear H a; intro a H
    refine still_does H rfl (does_load one_3 rfl (by first | exact boxM.rd S (i := 0) rfl rfl)) ?_; clear H a; intro a H
    refine still_call H rfl rfl Try.func67 rfl rfl (ref_from _ _ _ _) ?_; clear H a; intro a H
    refine still_does H rfl (does_not rfl) ?_; clear H a; intro a H
    refine wpStill_nil (hK7 _ ?_)
    clear hK7 K7
    refine cond_ H rfl (fun hc2 => ?_) (fun hc2 => ?_)
    · try simp only [Bool.or_eq_true, Bool.and_eq_true, Bool.not_eq_true', Bool.or_eq_false_iff, Bool.and_eq_false_iff, Bool.not_eq_false', decide_eq_true_eq, decide_eq_false_iff_not, Int.not_lt, Int.not_le] at hc2
      replace H := H.keep [] rfl
      refine seq_still (fun K8 hK8 => ?_)
      refine still_does H rfl (does_assign rfl) ?_; clear H a; intro a H
      refine still_does H rfl (does_assign rfl) ?_; clear H a; intro a H
      refine still_does H rfl (does_assign rfl) ?_; clear H a; intro a H
      refine wpStill_nil (hK8 _ ?_)
      clear hK8 K8
      refine wp_ret ?_
      refine ret3 (fn := Try.f31) rfl H rfl rfl rfl ?_
      exact ⟨by unfold longO wholeO; rw [if_neg (by omega), show (decide (1 ≤ many) && decide (many ≤ links)) = false from by rw [← Bool.not_eq_true]; simp only [Bool.and_eq_true, decide_eq_true_eq]; omega]; rfl, (S.sel [] rfl rfl)⟩
    · try simp only [Bool.or_eq_true, Bool.and_eq_true, Bool.not_eq_true', Bool.or_eq_false_iff, Bool.and_eq_false_iff, Bool.not_eq_false', decide_eq_true_eq, decide_eq_false_iff_not, Int.not_lt, Int.not_le] at hc2
      refine wp_skip ?_
      refine hK6 _ _ ?_
      have hk : checkE (⟨links, pitch, limit⟩ : Chain) l = 0 := by omega
      have hkk := checkE_ok hk
      have hlen40 := hkk.2.1
      have hA2 : (decide (1 ≤ many) && decide (many ≤ links)) = true := by simp only [Bool.and_eq_true, decide_eq_true_eq]; omega
      rcases hW0 : weaveW (⟨links, pitch, limit⟩ : Chain) l yes with _ | M
      · skip
        skip
        replace H := H.keep [1, 2, 3] rfl
        refine seq_list (fun K9 hK9 => ?_)
        refine list_does H rfl (by first | exact does_loadBox agg_23 sz_23 rfl S (i := 0) rfl rfl) ?_; clear H a; intro a H
        refine list_does H rfl (does_move rfl) ?_; clear H a; intro a H
        refine list_call H rfl rfl Try.func68 rfl rfl (ret_imp (ref_buildI links pitch limit l A cp _ hkk.1 (by omega) hkk.2.2 (hl.now S)) (fun _ _ => built_none hW0)) ?_; clear H a
        rintro _ _ a ⟨W, cw, rfl, S2⟩ H
        replace S := S.call S2; clear S2
        refine list_does H rfl (does_move rfl) ?_; clear H a; intro a H
        refine list_does H rfl (does_extract rfl rfl) ?_; clear H a; intro a H
        refine list_does H rfl (does_extract rfl rfl) ?_; clear H a; intro a H
        refine list_does H rfl (does_assign rfl) ?_; clear H a; intro a H
        refine list_does H rfl (does_assign rfl) ?_; clear H a; intro a H
        refine hK9 _ _ ?_
        clear hK9 K9
        refine wp_seq_k (fun K10 hK10 => ?_)
        replace H := H.keep [2, 3, 10, 11] rfl
        refine seq_still (fun K11 hK11 => ?_)
        refine still_does H rfl (does_move rfl) ?_; clear H a; intro a H
        refine still_does H rfl (does_not rfl) ?_; clear H a; intro a H
        refine wpStill_nil (hK11 _ ?_)
        clear hK11 K11
        refine cond_ H rfl (fun hc3 => ?_) (fun hc3 => ?_)
        · skip
          replace H := H.keep [] rfl
          refine seq_still (fun K12 hK12 => ?_)
          refine still_does H rfl (does_assign rfl) ?_; clear H a; intro a H
          refine still_does H rfl (does_assign rfl) ?_; clear H a; intro a H
          refine still_does H rfl (does_assign rfl) ?_; clear H a; intro a H
          refine wpStill_nil (hK12 _ ?_)
          clear hK12 K12
          refine wp_ret ?_
          refine ret3 (fn := Try.f31) rfl H rfl rfl rfl ?_
          exact ⟨by unfold longO wholeO; rw [if_neg (by omega), hA2, hW0]; rfl, (S.sel [] rfl rfl)⟩
        · skip
          cases hc3
      · skip
        have hW : wholeO (⟨links, pitch, limit⟩ : Chain) l (decide (1 ≤ many) && decide (many ≤ links)) = .ok M := by
          unfold wholeO; rw [if_neg (by omega), hA2, if_pos rfl, hW0]
        have hG := wholeO_good hW; have hC := hG.2; unfold chainOk at hC; simp only [decide_eq_true_eq] at hC
        obtain ⟨m, rfl⟩ := Int.eq_ofNat_of_zero_le (show 0 ≤ links by omega)
        have hG1 : Good (m + 1) M := hG.1; have hB : bdd (m + 1) 2199023255552 M := hG1.bdd; have hW1 := wholeO_ok hW
        obtain ⟨mm, rfl⟩ := Int.eq_ofNat_of_zero_le (show 0 ≤ many by omega)
        have hpos := run_pos hk hW0
        have hbig : bdd (m + 1) 4611686018427387904 M := fun x y hx hy => by have := hB x y hx hy; omega
        replace H := H.keep [1, 2, 3] rfl
        refine seq_list (fun K13 hK13 => ?_)
        refine list_does H rfl (by first | exact does_loadBox agg_23 sz_23 rfl S (i := 0) rfl rfl) ?_; clear H a; intro a H
        refine list_does H rfl (does_move rfl) ?_; clear H a; intro a H
        refine list_call H rfl rfl Try.func68 rfl rfl (ret_imp (ref_buildI m pitch limit l A cp _ hkk.1 (by omega) hkk.2.2 (hl.now S)) (fun _ _ => built_some (n := m + 1) hW0)) ?_; clear H a
        rintro _ _ a ⟨W, cw, rb, rc, rfl, S2⟩ H
        replace S := S.call S2; clear S2
        refine list_does H rfl (does_move rfl) ?_; clear H a; intro a H
        refine list_does H rfl (does_extract rfl rfl) ?_; clear H a; intro a H
        refine list_does H rfl (does_extract rfl rfl) ?_; clear H a; intro a H
        refine list_does H rfl (does_assign rfl) ?_; clear H a; intro a H
        refine list_does H rfl (does_assign rfl) ?_; clear H a; intro a H
        refine hK13 _ _ ?_
        clear hK13 K13
        refine wp_seq_k (fun K14 hK14 => ?_)
        replace H := H.keep [2, 3, 10, 11] rfl
        refine seq_still (fun K15 hK15 => ?_)
        refine still_does H rfl (does_move rfl) ?_; clear H a; intro a H
        refine still_does H rfl (does_not rfl) ?_; clear H a; intro a H
        refine wpStill_nil (hK15 _ ?_)
        clear hK15 K15
        refine cond_ H rfl (fun hc4 => ?_) (fun hc4 => ?_)
        · skip
          cases hc4
        · skip
          refine wp_skip ?_
          refine hK14 _ _ ?_
          replace H := H.keep [2, 3, 10] rfl
          refine seq_still (fun K16 hK16 => ?_)
          refine still_does H rfl (does_assign rfl) ?_; clear H a; intro a H
          refine still_does H rfl (does_assign rfl) ?_; clear H a; intro a H
          refine wpStill_nil (hK16 _ ?_)
          clear hK16 K16
          refine wp_seq_k (fun K17 hK17 => ?_)
          replace H := H.keep [2, 3, 10, 12, 13] rfl
          refine seq_still (fun K18 hK18 => ?_)
          refine still_does H rfl (does_assign rfl) ?_; clear H a; intro a H
          refine wpStill_nil (hK18 _ ?_)
          clear hK18 K18
          refine wp_block ?_
          refine loop_st (X := Nat × Int × Int) (R0 := _) [2, 3, 10] H rfl (fun ⟨k, at_, mo⟩ => [(12, .int .i64 at_), (13, .int .i64 mo), (14, .int .i64 (k : Int))]) (fun ⟨k, at_, mo⟩ => []) (fun g ⟨k, at_, mo⟩ => k + mm ≤ m + 1 ∧ g + k + mm = m + 1 ∧ longTo M mm k = (at_, mo)) (m + 1 - mm) (0, 0, 0) ?_ (S.sel [0, 1, 2] rfl rfl) (H.keep [12, 13, 14, 2, 3, 10] rfl) ?_
          · exact ⟨by omega, by omega, rfl⟩
          · intro g1 x1 a w1 hp S H K19 hK19
            obtain ⟨k, at_, mo⟩ := x1
            dsimp only at hp S H
            have hmo : k = 0 → mo = 0 := fun h => by
              subst h; have h9 := hp.2.2; cases h9; rfl
            refine wp_seq_k (fun K20 hK20 => ?_)
            replace H := H.keep [2, 3, 10, 12, 13, 14] rfl
            refine seq_still (fun K21 hK21 => ?_)
            refine still_does H rfl (does_move rfl) ?_; clear H a; intro a H
            refine still_does H rfl (does_move rfl) ?_; clear H a; intro a H
            refine still_does H rfl (does_add rfl rfl (by unfold i64ok; omega)) ?_; clear H a; intro a H
            refine still_does H rfl (by first | exact does_field_pt fo_23_0 rfl | exact does_field fo_23_0 rfl) ?_; clear H a; intro a H
            refine still_does H rfl (does_load one_3 rfl (by first | exact ownM.rd S (i := 0) rfl (by omega) (by omega) | exact rowsM.rd S (i := 1) rfl (by omega) (by omega) | exact boxM.rd S (i := 0) rfl rfl | exact boxM.rd S (i := 1) rfl rfl | exact boxM.rd S (i := 2) rfl rfl)) ?_; clear H a; intro a H
            refine still_does H rfl (does_leq rfl rfl) ?_; clear H a; intro a H
            refine wpStill_nil (hK21 _ ?_)
            clear hK21 K21
            refine cond_ H rfl (fun hc5 => ?_) (fun hc5 => ?_)
            · try simp only [Bool.or_eq_true, Bool.and_eq_true, Bool.not_eq_true', Bool.or_eq_false_iff, Bool.and_eq_false_iff, Bool.not_eq_false', decide_eq_true_eq, decide_eq_false_iff_not, Int.not_lt, Int.not_le] at hc5
              refine wp_skip ?_
              refine hK20 _ _ ?_
              refine wp_seq_k (fun K22 hK22 => ?_)
              refine wp_block ?_
              replace H := H.keep [2, 3, 10, 12, 13, 14] rfl
              refine seq_still (fun K23 hK23 => ?_)
              refine still_does H rfl (does_move rfl) ?_; clear H a; intro a H
              refine still_does H rfl (does_move rfl) ?_; clear H a; intro a H
              refine still_does H rfl (by first | exact does_indexN sl_101 sz_29 rfl rfl (by first | exact ownM.adr S (i := 0) rfl (by omega) | exact rfl) (by first | omega | omega) | exact does_index sl_101 sz_29 rfl rfl (by first | exact ownM.adr S (i := 0) rfl (by omega) | exact rfl) (by omega) (by first | omega | omega)) ?_; clear H a; intro a H
              refine still_does H rfl (does_load one_29 rfl (by first | exact ownM.rd S (i := 0) rfl (by omega) (by omega) | exact rowsM.rd S (i := 1) rfl (by omega) (by omega) | exact boxM.rd S (i := 0) rfl rfl | exact boxM.rd S (i := 1) rfl rfl | exact boxM.rd S (i := 2) rfl rfl)) ?_; clear H a; intro a H
              refine still_does H rfl (does_move rfl) ?_; clear H a; intro a H
              refine still_does H rfl (does_move rfl) ?_; clear H a; intro a H
              refine still_does H rfl (does_add rfl rfl (by unfold i64ok; omega)) ?_; clear H a; intro a H
              refine still_does H rfl (by first | exact does_indexN sl_29 sz_3 rfl rfl (by first | exact ownM.adr S (i := 0) rfl (by omega) | exact rfl) (by first | omega | omega) | exact does_index sl_29 sz_3 rfl rfl (by first | exact ownM.adr S (i := 0) rfl (by omega) | exact rfl) (by omega) (by first | omega | omega)) ?_; clear H a; intro a H
              refine still_does H rfl (does_load one_3 rfl (by first | exact ownM.rd S (i := 0) rfl (by omega) (by omega) | exact rowsM.rd S (i := 1) rfl (by omega) (by omega) | exact boxM.rd S (i := 0) rfl rfl | exact boxM.rd S (i := 1) rfl rfl | exact boxM.rd S (i := 2) rfl rfl)) ?_; clear H a; intro a H
              refine still_does H rfl (does_move rfl) ?_; clear H a; intro a H
              refine still_does H rfl (does_gtr rfl rfl) ?_; clear H a; intro a H
              refine wpStill_nil (hK23 _ ?_)
              clear hK23 K23
              refine cond_ H rfl (fun hc6 => ?_) (fun hc6 => ?_)
              · try simp only [Bool.or_eq_true, Bool.and_eq_true, Bool.not_eq_true', Bool.or_eq_false_iff, Bool.and_eq_false_iff, Bool.not_eq_false', decide_eq_true_eq, decide_eq_false_iff_not, Int.not_lt, Int.not_le] at hc6
                replace H := H.keep [2, 3, 10, 14] rfl
                refine seq_still (fun K24 hK24 => ?_)
                refine still_does H rfl (does_move rfl) ?_; clear H a; intro a H
                refine still_does H rfl (does_move rfl) ?_; clear H a; intro a H
                refine still_does H rfl (by first | exact does_indexN sl_101 sz_29 rfl rfl (by first | exact ownM.adr S (i := 0) rfl (by omega) | exact rfl) (by first | omega | omega) | exact does_index sl_101 sz_29 rfl rfl (by first | exact ownM.adr S (i := 0) rfl (by omega) | exact rfl) (by omega) (by first | omega | omega)) ?_; clear H a; intro a H
                refine still_does H rfl (does_load one_29 rfl (by first | exact ownM.rd S (i := 0) rfl (by omega) (by omega) | exact rowsM.rd S (i := 1) rfl (by omega) (by omega) | exact boxM.rd S (i := 0) rfl rfl | exact boxM.rd S (i := 1) rfl rfl | exact boxM.rd S (i := 2) rfl rfl)) ?_; clear H a; intro a H
                refine still_does H rfl (does_move rfl) ?_; clear H a; intro a H
                refine still_does H rfl (does_move rfl) ?_; clear H a; intro a H
                refine still_does H rfl (does_add rfl rfl (by unfold i64ok; omega)) ?_; clear H a; intro a H
                refine still_does H rfl (by first | exact does_indexN sl_29 sz_3 rfl rfl (by first | exact ownM.adr S (i := 0) rfl (by omega) | exact rfl) (by first | omega | omega) | exact does_index sl_29 sz_3 rfl rfl (by first | exact ownM.adr S (i := 0) rfl (by omega) | exact rfl) (by omega) (by first | omega | omega)) ?_; clear H a; intro a H
                refine still_does H rfl (does_load one_3 rfl (by first | exact ownM.rd S (i := 0) rfl (by omega) (by omega) | exact rowsM.rd S (i := 1) rfl (by omega) (by omega) | exact boxM.rd S (i := 0) rfl rfl | exact boxM.rd S (i := 1) rfl rfl | exact boxM.rd S (i := 2) rfl rfl)) ?_; clear H a; intro a H
                refine still_does H rfl (does_assign rfl) ?_; clear H a; intro a H
                refine wpStill_nil (hK24 _ ?_)
                clear hK24 K24
                replace H := H.keep [2, 3, 10, 13, 14] rfl
                refine one_still ?_
                refine still_does H rfl (does_move rfl) ?_; clear H a; intro a H
                refine still_does H rfl (does_assign rfl) ?_; clear H a; intro a H
                refine wpStill_nil ?_
                refine hK22 _ _ ?_
                replace H := H.keep [2, 3, 10, 12, 13, 14] rfl
                refine one_still ?_
                refine still_does H rfl (does_move rfl) ?_; clear H a; intro a H
                refine still_does H rfl (does_add rfl rfl (by unfold i64ok; omega)) ?_; clear H a; intro a H
                refine still_does H rfl (does_assign rfl) ?_; clear H a; intro a H
                refine wpStill_nil ?_
                exact hK19 (g1 - 1) (k + 1, _, _) a _ (by omega) (⟨by omega, by omega, by have h8 := hpos k mm (by (try dsimp only); omega) (by omega); rw [longTo, hp.2.2]; first | rw [if_pos (by (try dsimp only); omega)] | rw [if_neg (by (try dsimp only); omega)]⟩) (S.sel [0, 1, 2] rfl rfl) (H.keep [12, 13, 14, 2, 3, 10] rfl)
              · try simp only [Bool.or_eq_true, Bool.and_eq_true, Bool.not_eq_true', Bool.or_eq_false_iff, Bool.and_eq_false_iff, Bool.not_eq_false', decide_eq_true_eq, decide_eq_false_iff_not, Int.not_lt, Int.not_le] at hc6
                refine wp_skip ?_
                refine hK22 _ _ ?_
                replace H := H.keep [2, 3, 10, 12, 13, 14] rfl
                refine one_still ?_
                refine still_does H rfl (does_move rfl) ?_; clear H a; intro a H
                refine still_does H rfl (does_add rfl rfl (by unfold i64ok; omega)) ?_; clear H a; intro a H
                refine still_does H rfl (does_assign rfl) ?_; clear H a; intro a H
                refine wpStill_nil ?_
                exact hK19 (g1 - 1) (k + 1, _, _) a _ (by omega) (⟨by omega, by omega, by have h8 := hpos k mm (by (try dsimp only); omega) (by omega); rw [longTo, hp.2.2]; first | rw [if_pos (by (try dsimp only); omega)] | rw [if_neg (by (try dsimp only); omega)]⟩) (S.sel [0, 1, 2] rfl rfl) (H.keep [12, 13, 14, 2, 3, 10] rfl)
            · try simp only [Bool.or_eq_true, Bool.and_eq_true, Bool.not_eq_true', Bool.or_eq_false_iff, Bool.and_eq_false_iff, Bool.not_eq_false', decide_eq_true_eq, decide_eq_false_iff_not, Int.not_lt, Int.not_le] at hc5
              refine wp_exit ?_
              refine hK17 _ _ ?_
              replace H := H.keep [12, 13] rfl
              refine seq_still (fun K28 hK28 => ?_)
              refine still_does H rfl (does_move rfl) ?_; clear H a; intro a H
              refine still_does H rfl (does_move rfl) ?_; clear H a; intro a H
              refine still_does H rfl (does_assign rfl) ?_; clear H a; intro a H
              refine still_does H rfl (does_assign rfl) ?_; clear H a; intro a H
              refine still_does H rfl (does_assign rfl) ?_; clear H a; intro a H
              refine wpStill_nil (hK28 _ ?_)
              clear hK28 K28
              refine wp_ret ?_
              refine ret3 (fn := Try.f31) rfl H rfl rfl rfl ?_
              have hk9 : k = m + 1 - mm := by omega
              subst hk9
              have h9 : longO ⟨m, pitch, limit⟩ l mm = (at_, mo, 0) := by
                unfold longO; (try dsimp only); rw [hW]; show ((longTo M mm (m + 1 - mm)).1, (longTo M mm (m + 1 - mm)).2, (0 : Int)) = _; rw [hp.2.2]
              rw [h9]; exact ⟨rfl, (S.sel [] rfl rfl)⟩

end Go.Proofs.Ytlejjfhgfajoiaa
