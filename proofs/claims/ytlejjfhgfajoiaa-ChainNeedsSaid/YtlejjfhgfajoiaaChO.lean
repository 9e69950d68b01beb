/- ChO. Printed by gen.py. -/
import Derived.Test.YtlejjfhgfajoiaaChN
namespace Go.Proofs.Ytlejjfhgfajoiaa
open Go.RowKit
set_option linter.unusedVariables false
set_option linter.unusedSimpArgs false


theorem due_err {p : Part} {l : List Use} {cls day : Int} (h : checkP p l ≠ 0) : dueO p l cls day = (0, checkP p l) := by unfold dueO; rw [if_pos h]
theorem due_arg {p : Part} {l : List Use} {cls day : Int} (h : checkP p l = 0) (h1 : ¬ ((0 ≤ cls ∧ cls ≤ (p.rates.length : Int) - 1) ∧ prevD l l.length ≤ day ∧ day ≤ 100000)) : dueO p l cls day = (0, 1) := by unfold dueO; rw [if_neg (by omega), if_pos h1]
theorem due_none {p : Part} {l : List Use} {cls day : Int} (h : checkP p l = 0) (h1 : (0 ≤ cls ∧ cls ≤ (p.rates.length : Int) - 1) ∧ prevD l l.length ≤ day ∧ day ≤ 100000) (h2 : ¬ IsAt p l l.length) : dueO p l cls day = (0, 3) := by unfold dueO; rw [if_neg (by omega), if_neg (fun h => h h1), if_pos h2]
theorem due_gone {p : Part} {l : List Use} {cls day : Int} (h : checkP p l = 0) (h1 : (0 ≤ cls ∧ cls ≤ (p.rates.length : Int) - 1) ∧ prevD l l.length ≤ day ∧ day ≤ 100000) (h2 : IsAt p l l.length) (h3 : p.age < day ∨ p.turns < sumT l l.length ∨ p.worn * 1000000 < wearEnd p l) : dueO p l cls day = (0, 3) := by unfold dueO; rw [if_neg (by omega), if_neg (fun h => h h1), if_neg (fun h => h h2), if_pos h3]
theorem due_is {p : Part} {l : List Use} {cls day : Int} (h : checkP p l = 0) (h1 : (0 ≤ cls ∧ cls ≤ (p.rates.length : Int) - 1) ∧ prevD l l.length ≤ day ∧ day ≤ 100000) (h2 : IsAt p l l.length) (h3 : ¬ (p.age < day ∨ p.turns < sumT l l.length ∨ p.worn * 1000000 < wearEnd p l)) : dueO p l cls day = (dueTurns p (sumT l l.length) (wearEnd p l) (p.rates.getD cls.toNat (0, 0)).2, 0) := by unfold dueO; rw [if_neg (by omega), if_neg (fun h => h h1), if_neg (fun h => h h2), if_neg h3]
theorem worn_yes {w : World} {p : Part} {l : List Use} {v : Value} {w' : World} (hA : IsAt p l l.length) (h : Worn w p l v w') : ∃ A' c', v = .tuple #[.slice A' l.length c', .bool true] ∧ St w noF [ownM 42 2 A' l.length c' (fcell (wearAt p l))] w' := by
  rcases h with ⟨_, h⟩ | ⟨h, _⟩
  · exact h
  · exact absurd hA h
theorem worn_no {w : World} {p : Part} {l : List Use} {v : Value} {w' : World} (hA : ¬ IsAt p l l.length) (h : Worn w p l v w') : v = .tuple #[.slice none 0 0, .bool false] ∧ St w noF [] w' := by
  rcases h with ⟨h, _⟩ | ⟨_, h⟩
  · exact absurd h hA
  · exact h
theorem wearEnd_nil {p : Part} {l : List Use} (h : l.length = 0) : wearEnd p l = 0 := by unfold wearEnd; rw [if_pos h]
theorem wearEnd_last {p : Part} {l : List Use} {k : Nat} (h : k + 1 = l.length) : wearEnd p l = (wearAt p l k).2 := by unfold wearEnd; rw [if_neg (by omega), wearAt_last h]


set_option maxRecDepth 100000 in
set_option maxHeartbeats 4000000 in
theorem chain_Due (rates : List (Int × Int)) (pwn ptn pag : Int) (RA : Option Addr) (rcp : Nat) (l : List Use) (A : Option Addr) (cp : Nat) (cls day : Int) (w : World) (hr : InS w noF 2 RA rates.length (scell rates)) (hrn : rates.length ≤ 9223372036854775807) (hl : InS w noF 6 A l.length (ucell l)) (hn : l.length ≤ 9223372036854775807) :
    Calls Try.prog 39 [.agg [.slice RA rates.length rcp, .int .i64 pwn, .int .i64 ptn, .int .i64 pag].toArray, .slice A l.length cp, .int .i64 cls, .int .i64 day].toArray w (Ret (fun v w' => v = .tuple #[.int .i64 (dueO (⟨rates, pwn, ptn, pag⟩ : Part) l cls day).1, .int .i64 (dueO (⟨rates, pwn, ptn, pag⟩ : Part) l cls day).2] ∧ St w noF [] w')) := by
  refine enter Try.func39 rfl Try.ntmps39 rfl (fun a H => ?_)
  have S := St.start w
  refine seq_list (fun K1 hK1 => ?_)
  refine list_box H rfl S rfl rfl ?_; clear H a S; intro b4 _ a hb4 hbw4 S H
  refine list_does H rfl (does_assign rfl) ?_; clear H a; intro a H
  refine list_does H rfl (does_assign rfl) ?_; clear H a; intro a H
  refine hK1 _ _ ?_
  clear hK1 K1
  refine wp_seq_k (fun K2 hK2 => ?_)
  replace H := H.keep [1, 2, 3, 4] rfl
  refine seq_list (fun K3 hK3 => ?_)
  refine list_does H rfl (by first | exact does_loadIn agg_62 sz_62 rfl S hl (by omega) (by omega) | exact does_loadIn agg_62 sz_62 rfl S hr (by omega) (by omega) | exact does_loadBox agg_62 sz_62 rfl S (i := 0) rfl rfl) ?_; clear H a; intro a H
  refine list_does H rfl (does_move rfl) ?_; clear H a; intro a H
  refine list_call H rfl rfl Try.func42 rfl rfl (chain_CheckPart rates pwn ptn pag RA rcp l A cp _ (hr.now S) hrn (hl.now S) hn) ?_; clear H a
  rintro _ _ a ⟨rfl, S2⟩ H
  replace S := S.call S2; clear S2
  refine list_does H rfl (does_assign rfl) ?_; clear H a; intro a H
  refine hK3 _ _ ?_
  clear hK3 K3
  replace H := H.keep [1, 2, 3, 4, 10] rfl
  refine seq_still (fun K4 hK4 => ?_)
  refine still_does H rfl (does_move rfl) ?_; clear H a; intro a H
  refine still_does H rfl (does_neq rfl rfl) ?_; clear H a; intro a H
  refine wpStill_nil (hK4 _ ?_)
  clear hK4 K4
  refine cond_ H rfl (fun hc1 => ?_) (fun hc1 => ?_)
  · try simp only [Bool.or_eq_true, Bool.and_eq_true, Bool.not_eq_true', Bool.or_eq_false_iff, Bool.and_eq_false_iff, Bool.not_eq_false', decide_eq_true_eq, decide_eq_false_iff_not, Int.not_lt, Int.not_le] at hc1
    replace H := H.keep [10] rfl
    refine seq_still (fun K5 hK5 => ?_)
    refine still_does H rfl (does_move rfl) ?_; clear H a; intro a H
    refine still_does H rfl (does_assign rfl) ?_; clear H a; intro a H
    refine still_does H rfl (does_assign rfl) ?_; clear H a; intro a H
    refine wpStill_nil (hK5 _ ?_)
    clear hK5 K5
    refine wp_ret ?_
    refine ret2 (fn := Try.f39) rfl H rfl rfl ?_
    rw [due_err (p := (⟨rates, pwn, ptn, pag⟩ : Part)) (by omega)]; exact ⟨rfl, (S.sel [] rfl rfl)⟩
  · try simp only [Bool.or_eq_true, Bool.and_eq_true, Bool.not_eq_true', Bool.or_eq_false_iff, Bool.and_eq_false_iff, Bool.not_eq_false', decide_eq_true_eq, decide_eq_false_iff_not, Int.not_lt, Int.not_le] at hc1
    refine wp_skip ?_
    refine hK2 _ _ ?_
    have h0 : checkP (⟨rates, pwn, ptn, pag⟩ : Part) l = 0 := by omega
    have hok := checkP_ok h0
    have hll := hok.len
    have hh := hok.hdr; unfold partHdr at hh; simp only [decide_eq_true_eq] at hh
    replace H := H.keep [1, 2, 3, 4] rfl
    refine seq_still (fun K6 hK6 => ?_)
    refine still_does H rfl (does_assign rfl) ?_; clear H a; intro a H
    refine still_does H rfl (does_assign rfl) ?_; clear H a; intro a H
    refine still_does H rfl (does_assign rfl) ?_; clear H a; intro a H
    refine wpStill_nil (hK6 _ ?_)
    clear hK6 K6
    refine wp_seq_k (fun K7 hK7 => ?_)
    replace H := H.keep [1, 2, 3, 4, 11, 12, 13] rfl
    refine seq_still (fun K8 hK8 => ?_)
    refine still_does H rfl (does_move rfl) ?_; clear H a; intro a H
    refine still_does H rfl (does_len sl_63 rfl) ?_; clear H a; intro a H
    refine still_does H rfl (does_move rfl) ?_; clear H a; intro a H
    refine wpStill_nil (hK8 _ ?_)
    clear hK8 K8
    refine wp_block ?_
    refine loop_st (X := Nat) (R0 := _) [1, 2, 3, 4, 12, 26, 27] H rfl (fun k => [(11, .int .i64 (sumT l k)), (13, .int .i64 (prevD l k)), (28, .int .i64 (k : Int))]) (fun k => []) (fun g k => k ≤ l.length ∧ g + k = l.length) (l.length) 0 ?_ (S.sel [0] rfl rfl) (H.keep [11, 13, 28, 1, 2, 3, 4, 12, 26, 27] rfl) ?_
    · exact ⟨by omega, by omega⟩
    · intro g1 x1 a w1 hp S H K9 hK9
      obtain ⟨k, rfl⟩ : ∃ y, y = x1 := ⟨_, rfl⟩
      skip
      replace H := H.keep [1, 2, 3, 4, 11, 12, 13, 26, 27, 28] rfl
      refine seq_still (fun K10 hK10 => ?_)
      refine still_does H rfl (does_lss rfl rfl) ?_; clear H a; intro a H
      refine wpStill_nil (hK10 _ ?_)
      clear hK10 K10
      refine wp_seq_k (fun K11 hK11 => ?_)
      refine cond_ H rfl (fun hc2 => ?_) (fun hc2 => ?_)
      · try simp only [Bool.or_eq_true, Bool.and_eq_true, Bool.not_eq_true', Bool.or_eq_false_iff, Bool.and_eq_false_iff, Bool.not_eq_false', decide_eq_true_eq, decide_eq_false_iff_not, Int.not_lt, Int.not_le] at hc2
        refine wp_skip ?_
        refine hK11 _ _ ?_
        refine wp_seq_k (fun K12 hK12 => ?_)
        refine wp_block ?_
        replace H := H.keep [1, 2, 3, 4, 11, 12, 26, 27, 28] rfl
        refine seq_list (fun K13 hK13 => ?_)
        refine list_does H rfl (by first | exact does_indexN sl_63 sz_70 rfl rfl (by first | exact hl.adr (by omega) | exact hr.adr (by omega)) (by first | omega | omega) | exact does_index sl_63 sz_70 rfl rfl (by first | exact hl.adr (by omega) | exact hr.adr (by omega)) (by omega) (by first | omega | omega)) ?_; clear H a; intro a H
        refine list_does H rfl (by first | exact does_loadIn agg_70 sz_70 rfl S hl (by omega) (by omega) | exact does_loadIn agg_70 sz_70 rfl S hr (by omega) (by omega) | exact does_loadBox agg_70 sz_70 rfl S (i := 0) rfl rfl) ?_; clear H a; intro a H
        refine list_alloc H rfl S ze_70 ?_; clear H a S; intro b15 _ a hb15 hbw15 S H
        first | (refine list_store H S (i := 0) rfl rfl rfl rfl sz_70 rfl rfl ?_) | (refine list_store H S (i := 1) rfl rfl rfl rfl sz_70 rfl rfl ?_) | (refine list_store_own H S (i := 0) rfl rfl rfl (by omega) (by omega) sz_70 rfl ?_) | (refine list_store_own H S (i := 1) rfl rfl rfl (by omega) (by omega) sz_70 rfl ?_)
        clear H a S; intro _ a S H
        refine hK13 _ _ ?_
        clear hK13 K13
        have hsb := sumT_bd hok k (by omega)
        have hu := hok.use (k := k) (by omega); unfold useOk at hu; simp only [decide_eq_true_eq] at hu
        replace H := H.keep [1, 2, 3, 4, 11, 12, 15, 26, 27, 28] rfl
        refine seq_still (fun K14 hK14 => ?_)
        refine still_does H rfl (does_move rfl) ?_; clear H a; intro a H
        refine still_does H rfl (by first | exact does_field_pt fo_70_1 rfl | exact does_field fo_70_1 rfl) ?_; clear H a; intro a H
        refine still_does H rfl (does_load one_3 rfl (by first | exact hr.rd S (by omega) (by omega) | exact boxM.rd S (i := 0) rfl rfl | exact boxM.rd S (i := 1) rfl rfl)) ?_; clear H a; intro a H
        refine still_does H rfl (does_add rfl rfl (by unfold i64ok; omega)) ?_; clear H a; intro a H
        refine still_does H rfl (does_assign rfl) ?_; clear H a; intro a H
        refine wpStill_nil (hK14 _ ?_)
        clear hK14 K14
        replace H := H.keep [1, 2, 3, 4, 11, 12, 15, 26, 27, 28] rfl
        refine one_still ?_
        refine still_does H rfl (by first | exact does_field_pt fo_70_0 rfl | exact does_field fo_70_0 rfl) ?_; clear H a; intro a H
        refine still_does H rfl (does_load one_3 rfl (by first | exact hr.rd S (by omega) (by omega) | exact boxM.rd S (i := 0) rfl rfl | exact boxM.rd S (i := 1) rfl rfl)) ?_; clear H a; intro a H
        refine still_does H rfl (does_assign rfl) ?_; clear H a; intro a H
        refine wpStill_nil ?_
        refine hK12 _ _ ?_
        replace H := H.keep [1, 2, 3, 4, 11, 12, 13, 26, 27, 28] rfl
        refine one_still ?_
        refine still_does H rfl (does_add rfl rfl (by unfold i64ok; omega)) ?_; clear H a; intro a H
        refine still_does H rfl (does_move rfl) ?_; clear H a; intro a H
        refine wpStill_nil ?_
        exact hK9 (g1 - 1) (k + 1) a _ (by omega) (by omega) (S.sel [1] rfl rfl) (H.keep [11, 13, 28, 1, 2, 3, 4, 12, 26, 27] rfl)
      · try simp only [Bool.or_eq_true, Bool.and_eq_true, Bool.not_eq_true', Bool.or_eq_false_iff, Bool.and_eq_false_iff, Bool.not_eq_false', decide_eq_true_eq, decide_eq_false_iff_not, Int.not_lt, Int.not_le] at hc2
        refine wp_exit ?_
        refine hK7 _ _ ?_
        refine wp_seq_k (fun K17 hK17 => ?_)
        have hk9 : k = l.length := by omega
        have hsb := sumT_bd hok k (by omega)
        replace H := H.keep [1, 2, 3, 4, 11, 12, 13] rfl
        refine seq_still (fun K18 hK18 => ?_)
        refine still_does H rfl (does_move rfl) ?_; clear H a; intro a H
        refine still_does H rfl (by first | exact does_field_pt fo_62_0 rfl | exact does_field fo_62_0 rfl) ?_; clear H a; intro a H
        refine still_does H rfl (does_load one_37 rfl (by first | exact hr.rd S (by omega) (by omega) | exact boxM.rd S (i := 0) rfl rfl)) ?_; clear H a; intro a H
        refine still_does H rfl (does_len sl_37 rfl) ?_; clear H a; intro a H
        refine still_does H rfl (does_sub rfl rfl (by unfold i64ok; omega)) ?_; clear H a; intro a H
        refine still_call H rfl rfl Try.func63 rfl rfl (chain_within _ _ _ _) ?_; clear H a; intro a H
        refine still_does H rfl (does_not rfl) ?_; clear H a; intro a H
        refine still_does H rfl (does_move rfl) ?_; clear H a; intro a H
        apply still_guard (i := 7) (g := 46) (t := 50) (b := false) 4 H rfl rfl (by kernel_rfl) (by kernel_rfl) rfl rfl
        case h1 =>
          intro hg8
          refine still_yes' H rfl rfl (by assumption) ?_
          refine still_does H rfl (does_move rfl) ?_; intro a H
          refine still_yes' H rfl rfl (by assumption) ?_
          refine still_does H rfl (does_move rfl) ?_; intro a H
          refine still_yes' H rfl rfl (by assumption) ?_
          refine still_call H rfl rfl Try.func63 rfl rfl (chain_within _ _ _ _) ?_; intro a H
          refine still_yes' H rfl rfl (by assumption) ?_
          refine still_does H rfl (does_not rfl) ?_; intro a H
          exact wpStill_nil (H.strip 4 rfl rfl)
        case k =>
          clear H a; intro a H
          refine still_does H rfl (by first | exact does_or rfl rfl rfl | exact does_pick rfl rfl rfl) ?_; clear H a; intro a H
          refine wpStill_nil (hK18 _ ?_)
          clear hK18 K18
          refine cond_ H rfl (fun hc3 => ?_) (fun hc3 => ?_)
          · try simp only [Bool.or_eq_true, Bool.and_eq_true, Bool.not_eq_true', Bool.or_eq_false_iff, Bool.and_eq_false_iff, Bool.not_eq_false', decide_eq_true_eq, decide_eq_false_iff_not, Int.not_lt, Int.not_le] at hc3
            replace H := H.keep [] rfl
            refine seq_still (fun K19 hK19 => ?_)
            refine still_does H rfl (does_assign rfl) ?_; clear H a; intro a H
            refine still_does H rfl (does_assign rfl) ?_; clear H a; intro a H
            refine wpStill_nil (hK19 _ ?_)
            clear hK19 K19
            refine wp_ret ?_
            refine ret2 (fn := Try.f39) rfl H rfl rfl ?_
            rw [due_arg (p := (⟨rates, pwn, ptn, pag⟩ : Part)) h0 (by rw [← hk9]; (try dsimp only); omega)]; exact ⟨rfl, (S.sel [] rfl rfl)⟩
          · try simp only [Bool.or_eq_true, Bool.and_eq_true, Bool.not_eq_true', Bool.or_eq_false_iff, Bool.and_eq_false_iff, Bool.not_eq_false', decide_eq_true_eq, decide_eq_false_iff_not, Int.not_lt, Int.not_le] at hc3
            refine wp_skip ?_
            refine hK17 _ _ ?_
            have hd9 : (0 ≤ cls ∧ cls ≤ (rates.length : Int) - 1) ∧ prevD l l.length ≤ day ∧ day ≤ 100000 := by
              rw [← hk9]; omega
            by_cases hA : IsAt (⟨rates, pwn, ptn, pag⟩ : Part) l l.length
            · skip
              replace H := H.keep [1, 2, 3, 4, 11, 12] rfl
              refine seq_list (fun K20 hK20 => ?_)
              refine list_does H rfl (by first | exact does_loadIn agg_62 sz_62 rfl S hl (by omega) (by omega) | exact does_loadIn agg_62 sz_62 rfl S hr (by omega) (by omega) | exact does_loadBox agg_62 sz_62 rfl S (i := 0) rfl rfl) ?_; clear H a; intro a H
              refine list_does H rfl (does_move rfl) ?_; clear H a; intro a H
              refine list_call H rfl rfl Try.func70 rfl rfl (ret_imp (chain_worn rates pwn ptn pag RA rcp l A cp _ (hr.now S) hrn (hl.now S) hn hok) (fun _ _ => worn_yes hA)) ?_; clear H a
              rintro _ _ a ⟨A', c', rfl, S2⟩ H
              replace S := S.call S2; clear S2
              refine list_does H rfl (does_move rfl) ?_; clear H a; intro a H
              refine list_does H rfl (does_extract rfl rfl) ?_; clear H a; intro a H
              refine list_does H rfl (does_extract rfl rfl) ?_; clear H a; intro a H
              refine list_does H rfl (does_assign rfl) ?_; clear H a; intro a H
              refine list_does H rfl (does_assign rfl) ?_; clear H a; intro a H
              refine hK20 _ _ ?_
              clear hK20 K20
              refine wp_seq_k (fun K21 hK21 => ?_)
              replace H := H.keep [2, 3, 4, 11, 12, 16, 17] rfl
              refine seq_still (fun K22 hK22 => ?_)
              refine still_does H rfl (does_move rfl) ?_; clear H a; intro a H
              refine still_does H rfl (does_not rfl) ?_; clear H a; intro a H
              refine wpStill_nil (hK22 _ ?_)
              clear hK22 K22
              refine cond_ H rfl (fun hc4 => ?_) (fun hc4 => ?_)
              · skip
                cases hc4
              · skip
                refine wp_skip ?_
                refine hK21 _ _ ?_
                have SR := (S.sel [0, 1] rfl rfl)
                refine meet_sr (X := Int) [2, 3, 4, 11] H rfl (fun x => [(12, .int .i64 x)]) (fun x => []) (fun x => x = wearEnd (⟨rates, pwn, ptn, pag⟩ : Part) l) SR (fun K24 hK24 => ?_) ?_
                · skip
                  replace H := H.keep [2, 3, 4, 11, 12, 16] rfl
                  refine seq_still (fun K25 hK25 => ?_)
                  refine still_does H rfl (does_move rfl) ?_; clear H a; intro a H
                  refine still_does H rfl (does_len sl_37 rfl) ?_; clear H a; intro a H
                  refine still_does H rfl (does_gtr rfl rfl) ?_; clear H a; intro a H
                  refine wpStill_nil (hK25 _ ?_)
                  clear hK25 K25
                  refine cond_ H rfl (fun hc5 => ?_) (fun hc5 => ?_)
                  · try simp only [Bool.or_eq_true, Bool.and_eq_true, Bool.not_eq_true', Bool.or_eq_false_iff, Bool.and_eq_false_iff, Bool.not_eq_false', decide_eq_true_eq, decide_eq_false_iff_not, Int.not_lt, Int.not_le] at hc5
                    replace H := H.keep [2, 3, 4, 11, 16] rfl
                    refine one_still ?_
                    refine still_does H rfl (does_move rfl) ?_; clear H a; intro a H
                    refine still_does H rfl (does_move rfl) ?_; clear H a; intro a H
                    refine still_does H rfl (does_len sl_37 rfl) ?_; clear H a; intro a H
                    refine still_does H rfl (does_sub rfl rfl (by unfold i64ok; omega)) ?_; clear H a; intro a H
                    refine still_does H rfl (by first | exact does_indexN sl_37 sz_42 rfl rfl (by first | exact hl.adr (by omega) | exact hr.adr (by omega) | exact ownM.adr S (i := 0) rfl (by omega)) (by first | omega | omega) | exact does_index sl_37 sz_42 rfl rfl (by first | exact hl.adr (by omega) | exact hr.adr (by omega) | exact ownM.adr S (i := 0) rfl (by omega)) (by omega) (by first | omega | omega)) ?_; clear H a; intro a H
                    refine still_does H rfl (by first | exact does_field_pt fo_42_1 rfl | exact does_field fo_42_1 rfl) ?_; clear H a; intro a H
                    refine still_does H rfl (does_load one_3 rfl (by first | exact hr.rd S (by omega) (by omega) | exact ownM.rd S (i := 0) rfl (by omega) (by omega) | exact boxM.rd S (i := 0) rfl rfl | exact boxM.rd S (i := 1) rfl rfl)) ?_; clear H a; intro a H
                    refine still_does H rfl (does_assign rfl) ?_; clear H a; intro a H
                    refine wpStill_nil ?_
                    exact hK24 _ a _ ((wearEnd_last (k := ((l.length : Int) - 1).toNat) (by omega)).symm) (S.sel [0, 1] rfl rfl) (H.keep [12, 2, 3, 4, 11] rfl)
                  · try simp only [Bool.or_eq_true, Bool.and_eq_true, Bool.not_eq_true', Bool.or_eq_false_iff, Bool.and_eq_false_iff, Bool.not_eq_false', decide_eq_true_eq, decide_eq_false_iff_not, Int.not_lt, Int.not_le] at hc5
                    refine wp_skip ?_
                    exact hK24 _ a _ ((wearEnd_nil (by omega)).symm) (S.sel [0, 1] rfl rfl) (H.keep [12, 2, 3, 4, 11] rfl)
                · intro xm a wm hp S H
                  obtain ⟨x, rfl⟩ : ∃ y, y = xm := ⟨_, rfl⟩
                  clear SR
                  have hp9 := hp
                  refine wp_seq_k (fun K27 hK27 => ?_)
                  have hwb : -40000000000000 ≤ x ∧ x ≤ 40000000000000 := by
                    rw [hp9]; unfold wearEnd; split
                    · omega
                    · have := fwd_bd hok l.length (Nat.le_refl _); omega
                  replace H := H.keep [2, 3, 4, 11, 12] rfl
                  refine seq_still (fun K28 hK28 => ?_)
                  refine still_does H rfl (does_move rfl) ?_; clear H a; intro a H
                  refine still_does H rfl (by first | exact does_field_pt fo_62_3 rfl | exact does_field fo_62_3 rfl) ?_; clear H a; intro a H
                  refine still_does H rfl (does_load one_3 rfl (by first | exact hr.rd S (by omega) (by omega) | exact ownM.rd S (i := 0) rfl (by omega) (by omega) | exact boxM.rd S (i := 0) rfl rfl | exact boxM.rd S (i := 1) rfl rfl)) ?_; clear H a; intro a H
                  refine still_does H rfl (does_gtr rfl rfl) ?_; clear H a; intro a H
                  refine still_does H rfl (does_move rfl) ?_; clear H a; intro a H
                  apply still_guard (i := 4) (g := 74) (t := 78) (b := false) 4 H rfl rfl (by kernel_rfl) (by kernel_rfl) rfl rfl
                  case h1 =>
                    intro hg5
                    refine still_yes' H rfl rfl (by assumption) ?_
                    refine still_does H rfl (does_move rfl) ?_; intro a H
                    refine still_yes' H rfl rfl (by assumption) ?_
                    refine still_does H rfl (by first | exact does_field_pt fo_62_2 rfl | exact does_field fo_62_2 rfl) ?_; intro a H
                    refine still_yes' H rfl rfl (by assumption) ?_
                    refine still_does H rfl (does_load one_3 rfl (by first | exact hr.rd S (by omega) (by omega) | exact ownM.rd S (i := 0) rfl (by omega) (by omega) | exact boxM.rd S (i := 0) rfl rfl | exact boxM.rd S (i := 1) rfl rfl)) ?_; intro a H
                    refine still_yes' H rfl rfl (by assumption) ?_
                    refine still_does H rfl (does_gtr rfl rfl) ?_; intro a H
                    exact wpStill_nil (H.strip 4 rfl rfl)
                  case k =>
                    clear H a; intro a H
                    refine still_does H rfl (by first | exact does_or rfl rfl rfl | exact does_pick rfl rfl rfl) ?_; clear H a; intro a H
                    refine still_does H rfl (does_move rfl) ?_; clear H a; intro a H
                    apply still_guard (i := 10) (g := 80) (t := 85) (b := false) 5 H rfl rfl (by kernel_rfl) (by kernel_rfl) rfl rfl
                    case h1 =>
                      intro hg11
                      refine still_yes' H rfl rfl (by assumption) ?_
                      refine still_does H rfl (does_move rfl) ?_; intro a H
                      refine still_yes' H rfl rfl (by assumption) ?_
                      refine still_does H rfl (by first | exact does_field_pt fo_62_1 rfl | exact does_field fo_62_1 rfl) ?_; intro a H
                      refine still_yes' H rfl rfl (by assumption) ?_
                      refine still_does H rfl (does_load one_3 rfl (by first | exact hr.rd S (by omega) (by omega) | exact ownM.rd S (i := 0) rfl (by omega) (by omega) | exact boxM.rd S (i := 0) rfl rfl | exact boxM.rd S (i := 1) rfl rfl)) ?_; intro a H
                      refine still_yes' H rfl rfl (by assumption) ?_
                      refine still_does H rfl (does_mul rfl rfl (by unfold i64ok; omega)) ?_; intro a H
                      refine still_yes' H rfl rfl (by assumption) ?_
                      refine still_does H rfl (does_gtr rfl rfl) ?_; intro a H
                      exact wpStill_nil (H.strip 5 rfl rfl)
                    case k =>
                      clear H a; intro a H
                      refine still_does H rfl (by first | exact does_or rfl rfl rfl | exact does_pick rfl rfl rfl) ?_; clear H a; intro a H
                      refine wpStill_nil (hK28 _ ?_)
                      clear hK28 K28
                      refine cond_ H rfl (fun hc6 => ?_) (fun hc6 => ?_)
                      · try simp only [Bool.or_eq_true, Bool.and_eq_true, Bool.not_eq_true', Bool.or_eq_false_iff, Bool.and_eq_false_iff, Bool.not_eq_false', decide_eq_true_eq, decide_eq_false_iff_not, Int.not_lt, Int.not_le] at hc6
                        replace H := H.keep [] rfl
                        refine seq_still (fun K29 hK29 => ?_)
                        refine still_does H rfl (does_assign rfl) ?_; clear H a; intro a H
                        refine still_does H rfl (does_assign rfl) ?_; clear H a; intro a H
                        refine wpStill_nil (hK29 _ ?_)
                        clear hK29 K29
                        refine wp_ret ?_
                        refine ret2 (fn := Try.f39) rfl H rfl rfl ?_
                        rw [due_gone (p := (⟨rates, pwn, ptn, pag⟩ : Part)) h0 hd9 hA (by rw [← hp9, ← hk9]; (try dsimp only); omega)]; exact ⟨rfl, (S.sel [] rfl rfl)⟩
                      · try simp only [Bool.or_eq_true, Bool.and_eq_true, Bool.not_eq_true', Bool.or_eq_false_iff, Bool.and_eq_false_iff, Bool.not_eq_false', decide_eq_true_eq, decide_eq_false_iff_not, Int.not_lt, Int.not_le] at hc6
                        refine wp_skip ?_
                        refine hK27 _ _ ?_
                        replace H := H.keep [2, 4, 11, 12] rfl
                        refine seq_still (fun K30 hK30 => ?_)
                        refine still_does H rfl (by first | exact does_field_pt fo_62_2 rfl | exact does_field fo_62_2 rfl) ?_; clear H a; intro a H
                        refine still_does H rfl (does_load one_3 rfl (by first | exact hr.rd S (by omega) (by omega) | exact ownM.rd S (i := 0) rfl (by omega) (by omega) | exact boxM.rd S (i := 0) rfl rfl | exact boxM.rd S (i := 1) rfl rfl)) ?_; clear H a; intro a H
                        refine still_does H rfl (does_move rfl) ?_; clear H a; intro a H
                        refine still_does H rfl (does_sub rfl rfl (by unfold i64ok; omega)) ?_; clear H a; intro a H
                        refine still_does H rfl (does_min rfl rfl) ?_; clear H a; intro a H
                        refine still_does H rfl (does_assign rfl) ?_; clear H a; intro a H
                        refine wpStill_nil (hK30 _ ?_)
                        clear hK30 K30
                        refine wp_seq_k (fun K31 hK31 => ?_)
                        replace H := H.keep [2, 4, 12, 18] rfl
                        refine seq_still (fun K32 hK32 => ?_)
                        refine still_does H rfl (by first | exact does_field_pt fo_62_0 rfl | exact does_field fo_62_0 rfl) ?_; clear H a; intro a H
                        refine still_does H rfl (does_load one_37 rfl (by first | exact hr.rd S (by omega) (by omega) | exact ownM.rd S (i := 0) rfl (by omega) (by omega) | exact boxM.rd S (i := 0) rfl rfl | exact boxM.rd S (i := 1) rfl rfl)) ?_; clear H a; intro a H
                        refine still_does H rfl (does_move rfl) ?_; clear H a; intro a H
                        refine still_does H rfl (by first | exact does_indexN sl_37 sz_42 rfl rfl (by first | exact hl.adr (by omega) | exact hr.adr (by omega) | exact ownM.adr S (i := 0) rfl (by omega)) (by first | omega | omega) | exact does_index sl_37 sz_42 rfl rfl (by first | exact hl.adr (by omega) | exact hr.adr (by omega) | exact ownM.adr S (i := 0) rfl (by omega)) (by omega) (by first | omega | omega)) ?_; clear H a; intro a H
                        refine still_does H rfl (by first | exact does_field_pt fo_42_1 rfl | exact does_field fo_42_1 rfl) ?_; clear H a; intro a H
                        refine still_does H rfl (does_load one_3 rfl (by first | exact hr.rd S (by omega) (by omega) | exact ownM.rd S (i := 0) rfl (by omega) (by omega) | exact boxM.rd S (i := 0) rfl rfl | exact boxM.rd S (i := 1) rfl rfl)) ?_; clear H a; intro a H
                        refine still_does H rfl (does_assign rfl) ?_; clear H a; intro a H
                        refine wpStill_nil (hK32 _ ?_)
                        clear hK32 K32
                        replace H := H.keep [4, 12, 18, 19] rfl
                        refine seq_still (fun K33 hK33 => ?_)
                        refine still_does H rfl (does_move rfl) ?_; clear H a; intro a H
                        refine still_does H rfl (does_gtr rfl rfl) ?_; clear H a; intro a H
                        refine wpStill_nil (hK33 _ ?_)
                        clear hK33 K33
                        refine cond_ H rfl (fun hc7 => ?_) (fun hc7 => ?_)
                        · try simp only [Bool.or_eq_true, Bool.and_eq_true, Bool.not_eq_true', Bool.or_eq_false_iff, Bool.and_eq_false_iff, Bool.not_eq_false', decide_eq_true_eq, decide_eq_false_iff_not, Int.not_lt, Int.not_le] at hc7
                          replace H := H.keep [4, 12, 18, 19] rfl
                          refine one_still ?_
                          refine still_does H rfl (does_move rfl) ?_; clear H a; intro a H
                          refine still_does H rfl (by first | exact does_field_pt fo_62_1 rfl | exact does_field fo_62_1 rfl) ?_; clear H a; intro a H
                          refine still_does H rfl (does_load one_3 rfl (by first | exact hr.rd S (by omega) (by omega) | exact ownM.rd S (i := 0) rfl (by omega) (by omega) | exact boxM.rd S (i := 0) rfl rfl | exact boxM.rd S (i := 1) rfl rfl)) ?_; clear H a; intro a H
                          refine still_does H rfl (does_mul rfl rfl (by unfold i64ok; omega)) ?_; clear H a; intro a H
                          refine still_does H rfl (does_move rfl) ?_; clear H a; intro a H
                          refine still_does H rfl (does_sub rfl rfl (by unfold i64ok; omega)) ?_; clear H a; intro a H
                          refine still_does H rfl (does_move rfl) ?_; clear H a; intro a H
                          refine still_does H rfl (does_quo rfl rfl (by omega) (by omega) (by omega)) ?_; clear H a; intro a H
                          refine still_does H rfl (does_min rfl rfl) ?_; clear H a; intro a H
                          refine still_does H rfl (does_assign rfl) ?_; clear H a; intro a H
                          refine wpStill_nil ?_
                          refine hK31 _ _ ?_
                          replace H := H.keep [18] rfl
                          refine seq_still (fun K35 hK35 => ?_)
                          refine still_does H rfl (does_move rfl) ?_; clear H a; intro a H
                          refine still_does H rfl (does_assign rfl) ?_; clear H a; intro a H
                          refine still_does H rfl (does_assign rfl) ?_; clear H a; intro a H
                          refine wpStill_nil (hK35 _ ?_)
                          clear hK35 K35
                          refine wp_ret ?_
                          refine ret2 (fn := Try.f39) rfl H rfl rfl ?_
                          rw [due_is (p := (⟨rates, pwn, ptn, pag⟩ : Part)) h0 hd9 hA (by rw [← hp9, ← hk9]; (try dsimp only); omega)]; refine ⟨?_, (S.sel [] rfl rfl)⟩
                          unfold dueTurns; dsimp only; rw [if_pos (by exact hc7), ← hp9, ← hk9]
                        · try simp only [Bool.or_eq_true, Bool.and_eq_true, Bool.not_eq_true', Bool.or_eq_false_iff, Bool.and_eq_false_iff, Bool.not_eq_false', decide_eq_true_eq, decide_eq_false_iff_not, Int.not_lt, Int.not_le] at hc7
                          refine wp_skip ?_
                          refine hK31 _ _ ?_
                          replace H := H.keep [18] rfl
                          refine seq_still (fun K36 hK36 => ?_)
                          refine still_does H rfl (does_move rfl) ?_; clear H a; intro a H
                          refine still_does H rfl (does_assign rfl) ?_; clear H a; intro a H
                          refine still_does H rfl (does_assign rfl) ?_; clear H a; intro a H
                          refine wpStill_nil (hK36 _ ?_)
                          clear hK36 K36
                          refine wp_ret ?_
                          refine ret2 (fn := Try.f39) rfl H rfl rfl ?_
                          rw [due_is (p := (⟨rates, pwn, ptn, pag⟩ : Part)) h0 hd9 hA (by rw [← hp9, ← hk9]; (try dsimp only); omega)]; refine ⟨?_, (S.sel [] rfl rfl)⟩
                          unfold dueTurns; dsimp only; rw [if_neg (by exact Int.not_lt.2 hc7), ← hk9]
            · skip
              replace H := H.keep [1, 2, 3, 4, 11, 12] rfl
              refine seq_list (fun K37 hK37 => ?_)
              refine list_does H rfl (by first | exact does_loadIn agg_62 sz_62 rfl S hl (by omega) (by omega) | exact does_loadIn agg_62 sz_62 rfl S hr (by omega) (by omega) | exact does_loadBox agg_62 sz_62 rfl S (i := 0) rfl rfl) ?_; clear H a; intro a H
              refine list_does H rfl (does_move rfl) ?_; clear H a; intro a H
              refine list_call H rfl rfl Try.func70 rfl rfl (ret_imp (chain_worn rates pwn ptn pag RA rcp l A cp _ (hr.now S) hrn (hl.now S) hn hok) (fun _ _ => worn_no hA)) ?_; clear H a
              rintro _ _ a ⟨rfl, S2⟩ H
              replace S := S.call S2; clear S2
              refine list_does H rfl (does_move rfl) ?_; clear H a; intro a H
              refine list_does H rfl (does_extract rfl rfl) ?_; clear H a; intro a H
              refine list_does H rfl (does_extract rfl rfl) ?_; clear H a; intro a H
              refine list_does H rfl (does_assign rfl) ?_; clear H a; intro a H
              refine list_does H rfl (does_assign rfl) ?_; clear H a; intro a H
              refine hK37 _ _ ?_
              clear hK37 K37
              refine wp_seq_k (fun K38 hK38 => ?_)
              replace H := H.keep [2, 3, 4, 11, 12, 16, 17] rfl
              refine seq_still (fun K39 hK39 => ?_)
              refine still_does H rfl (does_move rfl) ?_; clear H a; intro a H
              refine still_does H rfl (does_not rfl) ?_; clear H a; intro a H
              refine wpStill_nil (hK39 _ ?_)
              clear hK39 K39
              refine cond_ H rfl (fun hc8 => ?_) (fun hc8 => ?_)
              · skip
                replace H := H.keep [] rfl
                refine seq_still (fun K40 hK40 => ?_)
                refine still_does H rfl (does_assign rfl) ?_; clear H a; intro a H
                refine still_does H rfl (does_assign rfl) ?_; clear H a; intro a H
                refine wpStill_nil (hK40 _ ?_)
                clear hK40 K40
                refine wp_ret ?_
                refine ret2 (fn := Try.f39) rfl H rfl rfl ?_
                rw [due_none (p := (⟨rates, pwn, ptn, pag⟩ : Part)) h0 hd9 hA]; exact ⟨rfl, (S.sel [] rfl rfl)⟩
              · skip
                cases hc8

end Go.Proofs.Ytlejjfhgfajoiaa
