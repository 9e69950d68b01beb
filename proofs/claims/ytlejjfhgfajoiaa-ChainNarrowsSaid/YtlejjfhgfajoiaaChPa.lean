/- ChPa. Printed by gen.py. -/
import Derived.Test.YtlejjfhgfajoiaaChO
import Derived.Test.YtlejjfhgfajoiaaPt
namespace Go.Proofs.Ytlejjfhgfajoiaa
open Go.RowKit
set_option linter.unusedVariables false
set_option linter.unusedSimpArgs false


theorem prevD_nonneg {n : Nat} {l : List Use} : ∀ {k : Nat}, usesTo n l k = true → 0 ≤ prevD l k := by
  intro k
  induction k with
  | zero => intro _; exact Int.le_refl _
  | succ k ih =>
    intro h
    unfold usesTo at h
    rw [range_all_succ (n := 0), Bool.and_eq_true] at h
    have h1 := ih h.1
    have h2 := h.2
    unfold useOk at h2
    simp only [decide_eq_true_eq] at h2
    show 0 ≤ (l.getD k Use.zero).day
    omega
/-- What forward leaves. -/
def FwdR (w : World) (p : Part) (l : List Use) (v : Value) (w' : World) : Prop :=
  (atN p l = l.length ∧ ∃ A' c', v = .tuple #[.slice A' l.length c', .int .i64 (-1)] ∧ St w noF [ownM 42 2 A' l.length c' (fcell fun q => fwd p l (q + 1))] w') ∨ (atN p l < l.length ∧ v = .tuple #[.slice none 0 0, .int .i64 (atN p l : Int)] ∧ St w noF [] w')
theorem fwdR_yes {w : World} {p : Part} {l : List Use} {v : Value} {w' : World} (hA : atN p l = l.length) (h : FwdR w p l v w') : ∃ A' c', v = .tuple #[.slice A' l.length c', .int .i64 (-1)] ∧ St w noF [ownM 42 2 A' l.length c' (fcell fun q => fwd p l (q + 1))] w' := by
  rcases h with ⟨_, h⟩ | ⟨h, _⟩
  · exact h
  · omega
theorem fwdR_no {w : World} {p : Part} {l : List Use} {v : Value} {w' : World} (hA : atN p l < l.length) (h : FwdR w p l v w') : v = .tuple #[.slice none 0 0, .int .i64 (atN p l : Int)] ∧ St w noF [] w' := by
  rcases h with ⟨h, _⟩ | ⟨_, h⟩
  · omega
  · exact h
/-- What wear, Wear leave. -/
def WearR (w : World) (p : Part) (l : List Use) (v : Value) (w' : World) : Prop :=
  (wearE p l = 0 ∧ ∃ A' c', v = .tuple #[.slice A' l.length c', .int .i64 0] ∧ St w noF [ownM 42 2 A' l.length c' (fcell (wearAt p l))] w') ∨ (wearE p l ≠ 0 ∧ v = .tuple #[.slice none 0 0, .int .i64 (wearE p l)] ∧ St w noF [] w')
theorem wearR_yes {w : World} {p : Part} {l : List Use} {v : Value} {w' : World} (hA : wearE p l = 0) (h : WearR w p l v w') : ∃ A' c', v = .tuple #[.slice A' l.length c', .int .i64 0] ∧ St w noF [ownM 42 2 A' l.length c' (fcell (wearAt p l))] w' := by
  rcases h with ⟨_, h⟩ | ⟨h, _⟩
  · exact h
  · exact absurd hA h
theorem wearR_no {w : World} {p : Part} {l : List Use} {v : Value} {w' : World} (hA : wearE p l ≠ 0) (h : WearR w p l v w') : v = .tuple #[.slice none 0 0, .int .i64 (wearE p l)] ∧ St w noF [] w' := by
  rcases h with ⟨h, _⟩ | ⟨_, h⟩
  · exact absurd h hA
  · exact h
theorem fwd_get {p : Part} {l : List Use} {k : Nat} {i : Int} (h : ¬ i < (k : Int)) : (if i < (k : Int) then wearAt p l k else fwd p l (k + 1)) = fwd p l (k + 1) := if_neg h


set_option maxRecDepth 100000 in
set_option maxHeartbeats 4000000 in
theorem ref_CheckPart (rates : List (Int × Int)) (pwn ptn pag : Int) (RA : Option Addr) (rcp : Nat) (l : List Use) (A : Option Addr) (cp : Nat) (w : World) (hr : InS w noF 2 RA rates.length (scell rates)) (hrn : rates.length ≤ 9223372036854775807) (hl : InS w noF 6 A l.length (ucell l)) (hn : l.length ≤ 9223372036854775807) :
    Calls Try.prog 36 [.agg [.slice RA rates.length rcp, .int .i64 pwn, .int .i64 ptn, .int .i64 pag].toArray, .slice A l.length cp].toArray w (Ret (fun v w' => v = .int .i64 (checkP (⟨rates, pwn, ptn, pag⟩ : Part) l) ∧ St w noF [] w')) := by
  refine enter Try.func36 rfl Try.ntmps36 rfl (fun a H => ?_)
  have S := St.start w
  refine seq_list (fun K1 hK1 => ?_)
  refine list_box H rfl S rfl rfl ?_; clear H a S; intro b2 _ a hb2 hbw2 S H
  refine list_does H rfl (does_assign rfl) ?_; clear H a; intro a H
  refine hK1 _ _ ?_
  clear hK1 K1
  refine wp_seq_k (fun K2 hK2 => ?_)
  replace H := H.keep [1, 2] rfl
  refine seq_still (fun K3 hK3 => ?_)
  refine still_does H rfl (by first | exact does_field_pt fo_62_0 rfl | exact does_field fo_62_0 rfl) ?_; clear H a; intro a H
  refine still_does H rfl (does_load one_37 rfl (by first | exact hr.rd S (by omega) (by omega) | exact hl.rd S (by omega) (by omega) | exact boxM.rd S (i := 0) rfl rfl)) ?_; clear H a; intro a H
  refine still_does H rfl (does_len sl_37 rfl) ?_; clear H a; intro a H
  refine still_call H rfl rfl Try.func67 rfl rfl (ref_from _ _ _ _) ?_; clear H a; intro a H
  refine still_does H rfl (does_not rfl) ?_; clear H a; intro a H
  refine still_does H rfl (does_move rfl) ?_; clear H a; intro a H
  apply still_guard (i := 5) (g := 13) (t := 17) (b := false) 4 H rfl rfl (by kernel_rfl) (by kernel_rfl) rfl rfl
  case h1 =>
    intro hg6
    have hq6 := hg6; try simp only [Bool.or_eq_true, Bool.and_eq_true, Bool.not_eq_true', Bool.or_eq_false_iff, Bool.and_eq_false_iff, Bool.not_eq_false', decide_eq_true_eq, decide_eq_false_iff_not, Int.not_lt, Int.not_le] at hq6
    refine still_yes' H rfl rfl (by assumption) ?_
    refine still_does H rfl (by first | exact does_field_pt fo_62_1 rfl | exact does_field fo_62_1 rfl) ?_; intro a H
    refine still_yes' H rfl rfl (by assumption) ?_
    refine still_does H rfl (does_load one_3 rfl (by first | exact hr.rd S (by omega) (by omega) | exact hl.rd S (by omega) (by omega) | exact boxM.rd S (i := 0) rfl rfl)) ?_; intro a H
    refine still_yes' H rfl rfl (by assumption) ?_
    refine still_call H rfl rfl Try.func67 rfl rfl (ref_from _ _ _ _) ?_; intro a H
    refine still_yes' H rfl rfl (by assumption) ?_
    refine still_does H rfl (does_not rfl) ?_; intro a H
    exact wpStill_nil (H.strip 4 rfl rfl)
  case k =>
    clear H a; intro a H
    refine still_does H rfl (by first | exact does_or rfl rfl rfl | exact does_pick rfl rfl rfl) ?_; clear H a; intro a H
    refine still_does H rfl (does_move rfl) ?_; clear H a; intro a H
    apply still_guard (i := 11) (g := 19) (t := 23) (b := false) 4 H rfl rfl (by kernel_rfl) (by kernel_rfl) rfl rfl
    case h1 =>
      intro hg12
      have hq12 := hg12; try simp only [Bool.or_eq_true, Bool.and_eq_true, Bool.not_eq_true', Bool.or_eq_false_iff, Bool.and_eq_false_iff, Bool.not_eq_false', decide_eq_true_eq, decide_eq_false_iff_not, Int.not_lt, Int.not_le] at hq12
      refine still_yes' H rfl rfl (by assumption) ?_
      refine still_does H rfl (by first | exact does_field_pt fo_62_2 rfl | exact does_field fo_62_2 rfl) ?_; intro a H
      refine still_yes' H rfl rfl (by assumption) ?_
      refine still_does H rfl (does_load one_3 rfl (by first | exact hr.rd S (by omega) (by omega) | exact hl.rd S (by omega) (by omega) | exact boxM.rd S (i := 0) rfl rfl)) ?_; intro a H
      refine still_yes' H rfl rfl (by assumption) ?_
      refine still_call H rfl rfl Try.func67 rfl rfl (ref_from _ _ _ _) ?_; intro a H
      refine still_yes' H rfl rfl (by assumption) ?_
      refine still_does H rfl (does_not rfl) ?_; intro a H
      exact wpStill_nil (H.strip 4 rfl rfl)
    case k =>
      clear H a; intro a H
      refine still_does H rfl (by first | exact does_or rfl rfl rfl | exact does_pick rfl rfl rfl) ?_; clear H a; intro a H
      refine still_does H rfl (does_move rfl) ?_; clear H a; intro a H
      apply still_guard (i := 17) (g := 25) (t := 29) (b := false) 4 H rfl rfl (by kernel_rfl) (by kernel_rfl) rfl rfl
      case h1 =>
        intro hg18
        have hq18 := hg18; try simp only [Bool.or_eq_true, Bool.and_eq_true, Bool.not_eq_true', Bool.or_eq_false_iff, Bool.and_eq_false_iff, Bool.not_eq_false', decide_eq_true_eq, decide_eq_false_iff_not, Int.not_lt, Int.not_le] at hq18
        refine still_yes' H rfl rfl (by assumption) ?_
        refine still_does H rfl (by first | exact does_field_pt fo_62_3 rfl | exact does_field fo_62_3 rfl) ?_; intro a H
        refine still_yes' H rfl rfl (by assumption) ?_
        refine still_does H rfl (does_load one_3 rfl (by first | exact hr.rd S (by omega) (by omega) | exact hl.rd S (by omega) (by omega) | exact boxM.rd S (i := 0) rfl rfl)) ?_; intro a H
        refine still_yes' H rfl rfl (by assumption) ?_
        refine still_call H rfl rfl Try.func67 rfl rfl (ref_from _ _ _ _) ?_; intro a H
        refine still_yes' H rfl rfl (by assumption) ?_
        refine still_does H rfl (does_not rfl) ?_; intro a H
        exact wpStill_nil (H.strip 4 rfl rfl)
      case k =>
        clear H a; intro a H
        refine still_does H rfl (by first | exact does_or rfl rfl rfl | exact does_pick rfl rfl rfl) ?_; clear H a; intro a H
        refine wpStill_nil (hK3 _ ?_)
        clear hK3 K3
        refine cond_ H rfl (fun hc1 => ?_) (fun hc1 => ?_)
        · try simp only [Bool.or_eq_true, Bool.and_eq_true, Bool.not_eq_true', Bool.or_eq_false_iff, Bool.and_eq_false_iff, Bool.not_eq_false', decide_eq_true_eq, decide_eq_false_iff_not, Int.not_lt, Int.not_le] at hc1
          replace H := H.keep [] rfl
          refine seq_still (fun K4 hK4 => ?_)
          refine still_does H rfl (does_assign rfl) ?_; clear H a; intro a H
          refine wpStill_nil (hK4 _ ?_)
          clear hK4 K4
          refine wp_ret ?_
          refine ret1 (fn := Try.f36) rfl H rfl ?_
          refine ⟨?_, (S.sel [] rfl rfl)⟩; unfold checkP; rw [if_neg (by unfold partHdr; simp only [decide_eq_true_eq]; omega)]
        · try simp only [Bool.or_eq_true, Bool.and_eq_true, Bool.not_eq_true', Bool.or_eq_false_iff, Bool.and_eq_false_iff, Bool.not_eq_false', decide_eq_true_eq, decide_eq_false_iff_not, Int.not_lt, Int.not_le] at hc1
          refine wp_skip ?_
          refine hK2 _ _ ?_
          refine wp_seq_k (fun K5 hK5 => ?_)
          have hhd : partHdr (⟨rates, pwn, ptn, pag⟩ : Part) = true := by unfold partHdr; simp only [decide_eq_true_eq]; omega
          replace H := H.keep [1, 2] rfl
          refine seq_still (fun K6 hK6 => ?_)
          refine still_does H rfl (does_assign rfl) ?_; clear H a; intro a H
          refine wpStill_nil (hK6 _ ?_)
          clear hK6 K6
          refine wp_block ?_
          refine loop_st (X := Nat) (R0 := _) [1, 2] H rfl (fun k => [(5, .int .i64 (k : Int))]) (fun k => []) (fun g k => k ≤ rates.length ∧ g + k = rates.length ∧ (rates.take k).all rateOk = true) (rates.length) 0 ?_ (S.sel [0] rfl rfl) (H.keep [5, 1, 2] rfl) ?_
          · exact ⟨by omega, by omega, by simp⟩
          · intro g1 x1 a w1 hp S H K7 hK7
            obtain ⟨k, rfl⟩ : ∃ y, y = x1 := ⟨_, rfl⟩
            skip
            refine wp_seq_k (fun K8 hK8 => ?_)
            replace H := H.keep [1, 2, 5] rfl
            refine seq_still (fun K9 hK9 => ?_)
            refine still_does H rfl (does_move rfl) ?_; clear H a; intro a H
            refine still_does H rfl (by first | exact does_field_pt fo_62_0 rfl | exact does_field fo_62_0 rfl) ?_; clear H a; intro a H
            refine still_does H rfl (does_load one_37 rfl (by first | exact hr.rd S (by omega) (by omega) | exact hl.rd S (by omega) (by omega) | exact boxM.rd S (i := 0) rfl rfl)) ?_; clear H a; intro a H
            refine still_does H rfl (does_len sl_37 rfl) ?_; clear H a; intro a H
            refine still_does H rfl (does_lss rfl rfl) ?_; clear H a; intro a H
            refine wpStill_nil (hK9 _ ?_)
            clear hK9 K9
            refine cond_ H rfl (fun hc2 => ?_) (fun hc2 => ?_)
            · try simp only [Bool.or_eq_true, Bool.and_eq_true, Bool.not_eq_true', Bool.or_eq_false_iff, Bool.and_eq_false_iff, Bool.not_eq_false', decide_eq_true_eq, decide_eq_false_iff_not, Int.not_lt, Int.not_le] at hc2
              refine wp_skip ?_
              refine hK8 _ _ ?_
              refine wp_seq_k (fun K10 hK10 => ?_)
              refine wp_block ?_
              replace H := H.keep [1, 2, 5] rfl
              refine seq_stillD (by kernel_rfl) (by kernel_rfl) (fun K11 hK11 => ?_)
              replace S := S.drew
              refine still_does H rfl (by first | exact does_field_pt fo_62_0 rfl | exact does_field fo_62_0 rfl) ?_; clear H a; intro a H
              refine still_does H rfl (does_load one_37 rfl (by first | exact hr.rd S (by omega) (by omega) | exact hl.rd S (by omega) (by omega) | exact boxM.rd S (i := 0) rfl rfl)) ?_; clear H a; intro a H
              refine still_does H rfl (does_move rfl) ?_; clear H a; intro a H
              refine still_does H rfl (by first | exact does_indexN sl_37 sz_42 rfl rfl (by first | exact hl.adr (by omega) | exact hr.adr (by omega)) (by first | omega | omega) | exact does_index sl_37 sz_42 rfl rfl (by first | exact hl.adr (by omega) | exact hr.adr (by omega)) (by omega) (by first | omega | omega)) ?_; clear H a; intro a H
              refine still_does H rfl (by first | exact does_field_pt fo_42_0 rfl | exact does_field fo_42_0 rfl) ?_; clear H a; intro a H
              refine still_does H rfl (does_load one_3 rfl (by first | exact hr.rd S (by omega) (by omega) | exact hl.rd S (by omega) (by omega) | exact boxM.rd S (i := 0) rfl rfl)) ?_; clear H a; intro a H
              refine still_does H rfl (by first | exact does_field_pt fo_62_0 rfl | exact does_field fo_62_0 rfl) ?_; clear H a; intro a H
              refine still_does H rfl (does_load one_37 rfl (by first | exact hr.rd S (by omega) (by omega) | exact hl.rd S (by omega) (by omega) | exact boxM.rd S (i := 0) rfl rfl)) ?_; clear H a; intro a H
              refine still_does H rfl (does_move rfl) ?_; clear H a; intro a H
              refine still_does H rfl (by first | exact does_indexN sl_37 sz_42 rfl rfl (by first | exact hl.adr (by omega) | exact hr.adr (by omega)) (by first | omega | omega) | exact does_index sl_37 sz_42 rfl rfl (by first | exact hl.adr (by omega) | exact hr.adr (by omega)) (by omega) (by first | omega | omega)) ?_; clear H a; intro a H
              refine still_does H rfl (by first | exact does_field_pt fo_42_1 rfl | exact does_field fo_42_1 rfl) ?_; clear H a; intro a H
              refine still_does H rfl (does_load one_3 rfl (by first | exact hr.rd S (by omega) (by omega) | exact hl.rd S (by omega) (by omega) | exact boxM.rd S (i := 0) rfl rfl)) ?_; clear H a; intro a H
              refine still_call H rfl rfl Try.func67 rfl rfl (ref_from _ _ _ _) ?_; clear H a; intro a H
              refine still_does H rfl (does_not rfl) ?_; clear H a; intro a H
              refine still_does H rfl (does_move rfl) ?_; clear H a; intro a H
              apply still_guard (i := 14) (g := 52) (t := 59) (b := false) 7 H rfl rfl (by kernel_rfl) (by kernel_rfl) rfl rfl
              case h1 =>
                intro hg15
                have hq15 := hg15; try simp only [Bool.or_eq_true, Bool.and_eq_true, Bool.not_eq_true', Bool.or_eq_false_iff, Bool.and_eq_false_iff, Bool.not_eq_false', decide_eq_true_eq, decide_eq_false_iff_not, Int.not_lt, Int.not_le] at hq15
                refine still_yes' H rfl rfl (by assumption) ?_
                refine still_does H rfl (by first | exact does_field_pt fo_62_0 rfl | exact does_field fo_62_0 rfl) ?_; intro a H
                refine still_yes' H rfl rfl (by assumption) ?_
                refine still_does H rfl (does_load one_37 rfl (by first | exact hr.rd S (by omega) (by omega) | exact hl.rd S (by omega) (by omega) | exact boxM.rd S (i := 0) rfl rfl)) ?_; intro a H
                refine still_yes' H rfl rfl (by assumption) ?_
                refine still_does H rfl (does_move rfl) ?_; intro a H
                refine still_yes' H rfl rfl (by assumption) ?_
                refine still_does H rfl (by first | exact does_indexN sl_37 sz_42 rfl rfl (by first | exact hl.adr (by omega) | exact hr.adr (by omega)) (by first | omega | omega) | exact does_index sl_37 sz_42 rfl rfl (by first | exact hl.adr (by omega) | exact hr.adr (by omega)) (by omega) (by first | omega | omega)) ?_; intro a H
                refine still_yes' H rfl rfl (by assumption) ?_
                refine still_does H rfl (by first | exact does_field_pt fo_42_1 rfl | exact does_field fo_42_1 rfl) ?_; intro a H
                refine still_yes' H rfl rfl (by assumption) ?_
                refine still_does H rfl (does_load one_3 rfl (by first | exact hr.rd S (by omega) (by omega) | exact hl.rd S (by omega) (by omega) | exact boxM.rd S (i := 0) rfl rfl)) ?_; intro a H
                refine still_yes' H rfl rfl (by assumption) ?_
                refine still_does H rfl (does_gtr rfl rfl) ?_; intro a H
                exact wpStill_nil (H.strip 7 rfl rfl)
              case k =>
                clear H a; intro a H
                refine still_does H rfl (by first | exact does_or rfl rfl rfl | exact does_pick rfl rfl rfl) ?_; clear H a; intro a H
                refine wpStill_nil (hK11 _ ?_)
                clear hK11 K11
                refine cond_ H rfl (fun hc3 => ?_) (fun hc3 => ?_)
                · try simp only [Bool.or_eq_true, Bool.and_eq_true, Bool.not_eq_true', Bool.or_eq_false_iff, Bool.and_eq_false_iff, Bool.not_eq_false', decide_eq_true_eq, decide_eq_false_iff_not, Int.not_lt, Int.not_le] at hc3
                  replace H := H.keep [] rfl
                  refine seq_still (fun K12 hK12 => ?_)
                  refine still_does H rfl (does_assign rfl) ?_; clear H a; intro a H
                  refine wpStill_nil (hK12 _ ?_)
                  clear hK12 K12
                  refine wp_ret ?_
                  refine ret1 (fn := Try.f36) rfl H rfl ?_
                  refine ⟨?_, (S.sel [] rfl rfl)⟩; unfold checkP; rw [if_pos hhd]; (try dsimp only); rw [all_false (k := k) (d := (0, 0)) (by omega) (by unfold rateOk; simp only [decide_eq_false_iff_not]; omega)]; rfl
                · try simp only [Bool.or_eq_true, Bool.and_eq_true, Bool.not_eq_true', Bool.or_eq_false_iff, Bool.and_eq_false_iff, Bool.not_eq_false', decide_eq_true_eq, decide_eq_false_iff_not, Int.not_lt, Int.not_le] at hc3
                  refine wp_skip ?_
                  refine hK10 _ _ ?_
                  replace H := H.keep [1, 2, 5] rfl
                  refine one_still ?_
                  refine still_does H rfl (does_move rfl) ?_; clear H a; intro a H
                  refine still_does H rfl (does_add rfl rfl (by unfold i64ok; omega)) ?_; clear H a; intro a H
                  refine still_does H rfl (does_assign rfl) ?_; clear H a; intro a H
                  refine wpStill_nil ?_
                  exact hK7 (g1 - 1) (k + 1) a _ (by omega) (⟨by omega, by omega, all_take (d := (0, 0)) (by omega) hp.2.2 (by unfold rateOk; simp only [decide_eq_true_eq]; omega)⟩) (S.sel [0] rfl rfl) (H.keep [5, 1, 2] rfl)
            · try simp only [Bool.or_eq_true, Bool.and_eq_true, Bool.not_eq_true', Bool.or_eq_false_iff, Bool.and_eq_false_iff, Bool.not_eq_false', decide_eq_true_eq, decide_eq_false_iff_not, Int.not_lt, Int.not_le] at hc2
              refine wp_exit ?_
              refine hK5 _ _ ?_
              refine wp_seq_k (fun K14 hK14 => ?_)
              have hrt : rates.all rateOk = true := by have h9 := hp.2.2; rw [List.take_of_length_le (by omega)] at h9; exact h9
              replace H := H.keep [1, 2] rfl
              refine seq_still (fun K15 hK15 => ?_)
              refine still_does H rfl (does_move rfl) ?_; clear H a; intro a H
              refine still_does H rfl (does_len sl_63 rfl) ?_; clear H a; intro a H
              refine still_does H rfl (does_gtr rfl rfl) ?_; clear H a; intro a H
              refine wpStill_nil (hK15 _ ?_)
              clear hK15 K15
              refine cond_ H rfl (fun hc4 => ?_) (fun hc4 => ?_)
              · try simp only [Bool.or_eq_true, Bool.and_eq_true, Bool.not_eq_true', Bool.or_eq_false_iff, Bool.and_eq_false_iff, Bool.not_eq_false', decide_eq_true_eq, decide_eq_false_iff_not, Int.not_lt, Int.not_le] at hc4
                replace H := H.keep [] rfl
                refine seq_still (fun K16 hK16 => ?_)
                refine still_does H rfl (does_assign rfl) ?_; clear H a; intro a H
                refine wpStill_nil (hK16 _ ?_)
                clear hK16 K16
                refine wp_ret ?_
                refine ret1 (fn := Try.f36) rfl H rfl ?_
                refine ⟨?_, (S.sel [] rfl rfl)⟩; unfold checkP; rw [if_pos hhd, if_pos hrt, if_neg (by omega)]
              · try simp only [Bool.or_eq_true, Bool.and_eq_true, Bool.not_eq_true', Bool.or_eq_false_iff, Bool.and_eq_false_iff, Bool.not_eq_false', decide_eq_true_eq, decide_eq_false_iff_not, Int.not_lt, Int.not_le] at hc4
                refine wp_skip ?_
                refine hK14 _ _ ?_
                refine wp_seq_k (fun K17 hK17 => ?_)
                replace H := H.keep [1, 2] rfl
                refine seq_still (fun K18 hK18 => ?_)
                refine still_does H rfl (does_assign rfl) ?_; clear H a; intro a H
                refine wpStill_nil (hK18 _ ?_)
                clear hK18 K18
                refine wp_block ?_
                refine loop_st (X := Nat) (R0 := _) [1, 2] H rfl (fun j => [(6, .int .i64 (j : Int))]) (fun j => []) (fun g j => j ≤ l.length ∧ g + j = l.length ∧ usesTo rates.length l j = true) (l.length) 0 ?_ (S.sel [0] rfl rfl) (H.keep [6, 1, 2] rfl) ?_
                · exact ⟨by omega, by omega, rfl⟩
                · intro g2 x2 a w2 hp S H K19 hK19
                  obtain ⟨j, rfl⟩ : ∃ y, y = x2 := ⟨_, rfl⟩
                  skip
                  refine wp_seq_k (fun K20 hK20 => ?_)
                  replace H := H.keep [1, 2, 6] rfl
                  refine seq_still (fun K21 hK21 => ?_)
                  refine still_does H rfl (does_move rfl) ?_; clear H a; intro a H
                  refine still_does H rfl (does_move rfl) ?_; clear H a; intro a H
                  refine still_does H rfl (does_len sl_63 rfl) ?_; clear H a; intro a H
                  refine still_does H rfl (does_lss rfl rfl) ?_; clear H a; intro a H
                  refine wpStill_nil (hK21 _ ?_)
                  clear hK21 K21
                  refine cond_ H rfl (fun hc5 => ?_) (fun hc5 => ?_)
                  · try simp only [Bool.or_eq_true, Bool.and_eq_true, Bool.not_eq_true', Bool.or_eq_false_iff, Bool.and_eq_false_iff, Bool.not_eq_false', decide_eq_true_eq, decide_eq_false_iff_not, Int.not_lt, Int.not_le] at hc5
                    refine wp_skip ?_
                    refine hK20 _ _ ?_
                    refine wp_seq_k (fun K22 hK22 => ?_)
                    refine wp_block ?_
                    replace H := H.keep [1, 2, 6] rfl
                    refine seq_list (fun K23 hK23 => ?_)
                    refine list_does H rfl (does_move rfl) ?_; clear H a; intro a H
                    refine list_does H rfl (does_move rfl) ?_; clear H a; intro a H
                    refine list_does H rfl (by first | exact does_indexN sl_63 sz_70 rfl rfl (by first | exact hl.adr (by omega) | exact hr.adr (by omega)) (by first | omega | omega) | exact does_index sl_63 sz_70 rfl rfl (by first | exact hl.adr (by omega) | exact hr.adr (by omega)) (by omega) (by first | omega | omega)) ?_; clear H a; intro a H
                    refine list_does H rfl (by first | exact does_loadIn agg_70 sz_70 rfl S hl (by omega) (by omega) | exact does_loadIn agg_70 sz_70 rfl S hr (by omega) (by omega) | exact does_loadBox agg_70 sz_70 rfl S (i := 0) rfl rfl) ?_; clear H a; intro a H
                    refine list_alloc H rfl S ze_70 ?_; clear H a S; intro b7 _ a hb7 hbw7 S H
                    first | (refine list_store H S (i := 0) rfl rfl rfl rfl sz_70 rfl rfl ?_) | (refine list_store H S (i := 1) rfl rfl rfl rfl sz_70 rfl rfl ?_) | (refine list_store_own H S (i := 0) rfl rfl rfl (by omega) (by omega) sz_70 rfl ?_) | (refine list_store_own H S (i := 1) rfl rfl rfl (by omega) (by omega) sz_70 rfl ?_)
                    clear H a S; intro _ a S H
                    refine hK23 _ _ ?_
                    clear hK23 K23
                    refine wp_seq_k (fun K24 hK24 => ?_)
                    have hpd : prevD l j = if 0 < j then (l.getD (j - 1) Use.zero).day else 0 := by cases j with | zero => rfl | succ q => rfl
                    have hj9 : ((j : Int) - 1).toNat = j - 1 := by omega
                    have hpn := prevD_nonneg hp.2.2
                    replace H := H.keep [1, 2, 6, 7] rfl
                    refine seq_stillD (by kernel_rfl) (by kernel_rfl) (fun K25 hK25 => ?_)
                    replace S := S.drew
                    refine still_does H rfl (by first | exact does_field_pt fo_70_0 rfl | exact does_field fo_70_0 rfl) ?_; clear H a; intro a H
                    refine still_does H rfl (does_load one_3 rfl (by first | exact hr.rd S (by omega) (by omega) | exact hl.rd S (by omega) (by omega) | exact boxM.rd S (i := 0) rfl rfl | exact boxM.rd S (i := 1) rfl rfl)) ?_; clear H a; intro a H
                    refine still_call H rfl rfl Try.func67 rfl rfl (ref_from _ _ _ _) ?_; clear H a; intro a H
                    refine still_does H rfl (does_not rfl) ?_; clear H a; intro a H
                    refine still_does H rfl (does_move rfl) ?_; clear H a; intro a H
                    apply still_guard (i := 4) (g := 78) (t := 91) (b := false) 13 H rfl rfl (by kernel_rfl) (by kernel_rfl) rfl rfl
                    case h1 =>
                      intro hg5
                      have hq5 := hg5; try simp only [Bool.or_eq_true, Bool.and_eq_true, Bool.not_eq_true', Bool.or_eq_false_iff, Bool.and_eq_false_iff, Bool.not_eq_false', decide_eq_true_eq, decide_eq_false_iff_not, Int.not_lt, Int.not_le] at hq5
                      refine still_yes' H rfl rfl (by assumption) ?_
                      refine still_does H rfl (does_move rfl) ?_; intro a H
                      refine still_yes' H rfl rfl (by assumption) ?_
                      refine still_does H rfl (does_gtr rfl rfl) ?_; intro a H
                      refine still_yes' H rfl rfl (by assumption) ?_
                      refine still_does H rfl (does_move rfl) ?_; intro a H
                      apply still_guard (i := 7) (g := 81) (t := 90) (b := true) 9 H rfl rfl (by kernel_rfl) (by kernel_rfl) rfl rfl
                      case h1 =>
                        intro hg8
                        have hq8 := hg8; try simp only [Bool.or_eq_true, Bool.and_eq_true, Bool.not_eq_true', Bool.or_eq_false_iff, Bool.and_eq_false_iff, Bool.not_eq_false', decide_eq_true_eq, decide_eq_false_iff_not, Int.not_lt, Int.not_le] at hq8
                        refine still_yes' H rfl rfl (by assumption) ?_
                        refine still_does H rfl (by first | exact does_field_pt fo_70_0 rfl | exact does_field fo_70_0 rfl) ?_; intro a H
                        refine still_yes' H rfl rfl (by assumption) ?_
                        refine still_does H rfl (does_load one_3 rfl (by first | exact hr.rd S (by omega) (by omega) | exact hl.rd S (by omega) (by omega) | exact boxM.rd S (i := 0) rfl rfl | exact boxM.rd S (i := 1) rfl rfl)) ?_; intro a H
                        refine still_yes' H rfl rfl (by assumption) ?_
                        refine still_does H rfl (does_move rfl) ?_; intro a H
                        refine still_yes' H rfl rfl (by assumption) ?_
                        refine still_does H rfl (does_move rfl) ?_; intro a H
                        refine still_yes' H rfl rfl (by assumption) ?_
                        refine still_does H rfl (does_sub rfl rfl (by unfold i64ok; omega)) ?_; intro a H
                        refine still_yes' H rfl rfl (by assumption) ?_
                        refine still_does H rfl (by first | exact does_indexN sl_63 sz_70 rfl rfl (by first | exact hl.adr (by omega) | exact hr.adr (by omega)) (by first | omega | omega) | exact does_index sl_63 sz_70 rfl rfl (by first | exact hl.adr (by omega) | exact hr.adr (by omega)) (by omega) (by first | omega | omega)) ?_; intro a H
                        refine still_yes' H rfl rfl (by assumption) ?_
                        refine still_does H rfl (by first | exact does_field_pt fo_70_0 rfl | exact does_field fo_70_0 rfl) ?_; intro a H
                        refine still_yes' H rfl rfl (by assumption) ?_
                        refine still_does H rfl (does_load one_3 rfl (by first | exact hr.rd S (by omega) (by omega) | exact hl.rd S (by omega) (by omega) | exact boxM.rd S (i := 0) rfl rfl | exact boxM.rd S (i := 1) rfl rfl)) ?_; intro a H
                        refine still_yes' H rfl rfl (by assumption) ?_
                        refine still_does H rfl (does_lss rfl rfl) ?_; intro a H
                        exact wpStill_nil (H.strip 9 rfl rfl)
                      case k =>
                        intro a H
                        refine still_yes' H rfl rfl (by assumption) ?_
                        refine still_does H rfl (by first | exact does_and rfl rfl rfl | exact does_pick rfl rfl rfl) ?_; intro a H
                        exact wpStill_nil (H.strip 5 rfl rfl)
                    case k =>
                      clear H a; intro a H
                      refine still_does H rfl (by first | exact does_or rfl rfl rfl | exact does_pick rfl rfl rfl) ?_; clear H a; intro a H
                      refine still_does H rfl (does_move rfl) ?_; clear H a; intro a H
                      apply still_guard (i := 19) (g := 93) (t := 97) (b := false) 4 H rfl rfl (by kernel_rfl) (by kernel_rfl) rfl rfl
                      case h1 =>
                        intro hg20
                        have hq20 := hg20; try simp only [Bool.or_eq_true, Bool.and_eq_true, Bool.not_eq_true', Bool.or_eq_false_iff, Bool.and_eq_false_iff, Bool.not_eq_false', decide_eq_true_eq, decide_eq_false_iff_not, Int.not_lt, Int.not_le] at hq20
                        refine still_yes' H rfl rfl (by assumption) ?_
                        refine still_does H rfl (by first | exact does_field_pt fo_70_1 rfl | exact does_field fo_70_1 rfl) ?_; intro a H
                        refine still_yes' H rfl rfl (by assumption) ?_
                        refine still_does H rfl (does_load one_3 rfl (by first | exact hr.rd S (by omega) (by omega) | exact hl.rd S (by omega) (by omega) | exact boxM.rd S (i := 0) rfl rfl | exact boxM.rd S (i := 1) rfl rfl)) ?_; intro a H
                        refine still_yes' H rfl rfl (by assumption) ?_
                        refine still_call H rfl rfl Try.func67 rfl rfl (ref_from _ _ _ _) ?_; intro a H
                        refine still_yes' H rfl rfl (by assumption) ?_
                        refine still_does H rfl (does_not rfl) ?_; intro a H
                        exact wpStill_nil (H.strip 4 rfl rfl)
                      case k =>
                        clear H a; intro a H
                        refine still_does H rfl (by first | exact does_or rfl rfl rfl | exact does_pick rfl rfl rfl) ?_; clear H a; intro a H
                        refine still_does H rfl (does_move rfl) ?_; clear H a; intro a H
                        apply still_guard (i := 25) (g := 99) (t := 107) (b := false) 8 H rfl rfl (by kernel_rfl) (by kernel_rfl) rfl rfl
                        case h1 =>
                          intro hg26
                          have hq26 := hg26; try simp only [Bool.or_eq_true, Bool.and_eq_true, Bool.not_eq_true', Bool.or_eq_false_iff, Bool.and_eq_false_iff, Bool.not_eq_false', decide_eq_true_eq, decide_eq_false_iff_not, Int.not_lt, Int.not_le] at hq26
                          refine still_yes' H rfl rfl (by assumption) ?_
                          refine still_does H rfl (by first | exact does_field_pt fo_70_2 rfl | exact does_field fo_70_2 rfl) ?_; intro a H
                          refine still_yes' H rfl rfl (by assumption) ?_
                          refine still_does H rfl (does_load one_3 rfl (by first | exact hr.rd S (by omega) (by omega) | exact hl.rd S (by omega) (by omega) | exact boxM.rd S (i := 0) rfl rfl | exact boxM.rd S (i := 1) rfl rfl)) ?_; intro a H
                          refine still_yes' H rfl rfl (by assumption) ?_
                          refine still_does H rfl (by first | exact does_field_pt fo_62_0 rfl | exact does_field fo_62_0 rfl) ?_; intro a H
                          refine still_yes' H rfl rfl (by assumption) ?_
                          refine still_does H rfl (does_load one_37 rfl (by first | exact hr.rd S (by omega) (by omega) | exact hl.rd S (by omega) (by omega) | exact boxM.rd S (i := 0) rfl rfl | exact boxM.rd S (i := 1) rfl rfl)) ?_; intro a H
                          refine still_yes' H rfl rfl (by assumption) ?_
                          refine still_does H rfl (does_len sl_37 rfl) ?_; intro a H
                          refine still_yes' H rfl rfl (by assumption) ?_
                          refine still_does H rfl (does_sub rfl rfl (by unfold i64ok; omega)) ?_; intro a H
                          refine still_yes' H rfl rfl (by assumption) ?_
                          refine still_call H rfl rfl Try.func67 rfl rfl (ref_from _ _ _ _) ?_; intro a H
                          refine still_yes' H rfl rfl (by assumption) ?_
                          refine still_does H rfl (does_not rfl) ?_; intro a H
                          exact wpStill_nil (H.strip 8 rfl rfl)
                        case k =>
                          clear H a; intro a H
                          refine still_does H rfl (by first | exact does_or rfl rfl rfl | exact does_pick rfl rfl rfl) ?_; clear H a; intro a H
                          refine wpStill_nil (hK25 _ ?_)
                          clear hK25 K25
                          refine cond_ H rfl (fun hc6 => ?_) (fun hc6 => ?_)
                          · try simp only [Bool.or_eq_true, Bool.and_eq_true, Bool.not_eq_true', Bool.or_eq_false_iff, Bool.and_eq_false_iff, Bool.not_eq_false', decide_eq_true_eq, decide_eq_false_iff_not, Int.not_lt, Int.not_le] at hc6
                            rw [hj9] at hc6
                            replace H := H.keep [] rfl
                            refine seq_still (fun K26 hK26 => ?_)
                            refine still_does H rfl (does_assign rfl) ?_; clear H a; intro a H
                            refine wpStill_nil (hK26 _ ?_)
                            clear hK26 K26
                            refine wp_ret ?_
                            refine ret1 (fn := Try.f36) rfl H rfl ?_
                            refine ⟨?_, (S.sel [] rfl rfl)⟩; unfold checkP; rw [if_pos hhd, if_pos hrt, if_pos (by omega)]; unfold usesTo; rw [range_all_false (k := j) (by omega) (by unfold useOk; simp only [decide_eq_false_iff_not]; rw [hpd]; omega)]; rfl
                          · try simp only [Bool.or_eq_true, Bool.and_eq_true, Bool.not_eq_true', Bool.or_eq_false_iff, Bool.and_eq_false_iff, Bool.not_eq_false', decide_eq_true_eq, decide_eq_false_iff_not, Int.not_lt, Int.not_le] at hc6
                            rw [hj9] at hc6
                            refine wp_skip ?_
                            refine hK24 _ _ ?_
                            replace H := H.keep [1, 2, 6, 7] rfl
                            refine seq_still (fun K27 hK27 => ?_)
                            refine still_does H rfl (by first | exact does_field_pt fo_70_3 rfl | exact does_field fo_70_3 rfl) ?_; clear H a; intro a H
                            refine still_does H rfl (does_load one_4 rfl (by first | exact hr.rd S (by omega) (by omega) | exact hl.rd S (by omega) (by omega) | exact boxM.rd S (i := 0) rfl rfl | exact boxM.rd S (i := 1) rfl rfl)) ?_; clear H a; intro a H
                            refine still_does H rfl (does_move rfl) ?_; clear H a; intro a H
                            apply still_guard (i := 2) (g := 111) (t := 125) (b := true) 14 H rfl rfl (by kernel_rfl) (by kernel_rfl) rfl rfl
                            case h1 =>
                              intro hg3
                              have hq3 := hg3; try simp only [Bool.or_eq_true, Bool.and_eq_true, Bool.not_eq_true', Bool.or_eq_false_iff, Bool.and_eq_false_iff, Bool.not_eq_false', decide_eq_true_eq, decide_eq_false_iff_not, Int.not_lt, Int.not_le] at hq3
                              refine still_yes' H rfl rfl (by assumption) ?_
                              refine still_does H rfl (by first | exact does_field_pt fo_70_4 rfl | exact does_field fo_70_4 rfl) ?_; intro a H
                              refine still_yes' H rfl rfl (by assumption) ?_
                              refine still_does H rfl (by first | exact does_field_pt fo_42_0 rfl | exact does_field fo_42_0 rfl) ?_; intro a H
                              refine still_yes' H rfl rfl (by assumption) ?_
                              refine still_does H rfl (does_load one_3 rfl (by first | exact hr.rd S (by omega) (by omega) | exact hl.rd S (by omega) (by omega) | exact boxM.rd S (i := 0) rfl rfl | exact boxM.rd S (i := 1) rfl rfl)) ?_; intro a H
                              refine still_yes' H rfl rfl (by assumption) ?_
                              refine still_does H rfl (by first | exact does_field_pt fo_70_4 rfl | exact does_field fo_70_4 rfl) ?_; intro a H
                              refine still_yes' H rfl rfl (by assumption) ?_
                              refine still_does H rfl (by first | exact does_field_pt fo_42_1 rfl | exact does_field fo_42_1 rfl) ?_; intro a H
                              refine still_yes' H rfl rfl (by assumption) ?_
                              refine still_does H rfl (does_load one_3 rfl (by first | exact hr.rd S (by omega) (by omega) | exact hl.rd S (by omega) (by omega) | exact boxM.rd S (i := 0) rfl rfl | exact boxM.rd S (i := 1) rfl rfl)) ?_; intro a H
                              refine still_yes' H rfl rfl (by assumption) ?_
                              refine still_call H rfl rfl Try.func67 rfl rfl (ref_from _ _ _ _) ?_; intro a H
                              refine still_yes' H rfl rfl (by assumption) ?_
                              refine still_does H rfl (does_not rfl) ?_; intro a H
                              refine still_yes' H rfl rfl (by assumption) ?_
                              refine still_does H rfl (does_move rfl) ?_; intro a H
                              apply still_guard (i := 11) (g := 120) (t := 124) (b := false) 4 H rfl rfl (by kernel_rfl) (by kernel_rfl) rfl rfl
                              case h1 =>
                                intro hg12
                                have hq12 := hg12; try simp only [Bool.or_eq_true, Bool.and_eq_true, Bool.not_eq_true', Bool.or_eq_false_iff, Bool.and_eq_false_iff, Bool.not_eq_false', decide_eq_true_eq, decide_eq_false_iff_not, Int.not_lt, Int.not_le] at hq12
                                refine still_yes' H rfl rfl (by assumption) ?_
                                refine still_does H rfl (by first | exact does_field_pt fo_70_4 rfl | exact does_field fo_70_4 rfl) ?_; intro a H
                                refine still_yes' H rfl rfl (by assumption) ?_
                                refine still_does H rfl (by first | exact does_field_pt fo_42_1 rfl | exact does_field fo_42_1 rfl) ?_; intro a H
                                refine still_yes' H rfl rfl (by assumption) ?_
                                refine still_does H rfl (does_load one_3 rfl (by first | exact hr.rd S (by omega) (by omega) | exact hl.rd S (by omega) (by omega) | exact boxM.rd S (i := 0) rfl rfl | exact boxM.rd S (i := 1) rfl rfl)) ?_; intro a H
                                refine still_yes' H rfl rfl (by assumption) ?_
                                refine still_does H rfl (does_gtr rfl rfl) ?_; intro a H
                                exact wpStill_nil (H.strip 4 rfl rfl)
                              case k =>
                                intro a H
                                refine still_yes' H rfl rfl (by assumption) ?_
                                refine still_does H rfl (by first | exact does_or rfl rfl rfl | exact does_pick rfl rfl rfl) ?_; intro a H
                                exact wpStill_nil (H.strip 11 rfl rfl)
                            case k =>
                              clear H a; intro a H
                              refine still_does H rfl (by first | exact does_and rfl rfl rfl | exact does_pick rfl rfl rfl) ?_; clear H a; intro a H
                              refine still_does H rfl (does_move rfl) ?_; clear H a; intro a H
                              apply still_guard (i := 18) (g := 127) (t := 136) (b := false) 9 H rfl rfl (by kernel_rfl) (by kernel_rfl) rfl rfl
                              case h1 =>
                                intro hg19
                                have hq19 := hg19; try simp only [Bool.or_eq_true, Bool.and_eq_true, Bool.not_eq_true', Bool.or_eq_false_iff, Bool.and_eq_false_iff, Bool.not_eq_false', decide_eq_true_eq, decide_eq_false_iff_not, Int.not_lt, Int.not_le] at hq19
                                refine still_yes' H rfl rfl (by assumption) ?_
                                refine still_does H rfl (by first | exact does_field_pt fo_70_3 rfl | exact does_field fo_70_3 rfl) ?_; intro a H
                                refine still_yes' H rfl rfl (by assumption) ?_
                                refine still_does H rfl (does_load one_4 rfl (by first | exact hr.rd S (by omega) (by omega) | exact hl.rd S (by omega) (by omega) | exact boxM.rd S (i := 0) rfl rfl | exact boxM.rd S (i := 1) rfl rfl)) ?_; intro a H
                                refine still_yes' H rfl rfl (by assumption) ?_
                                refine still_does H rfl (does_not rfl) ?_; intro a H
                                refine still_yes' H rfl rfl (by assumption) ?_
                                refine still_does H rfl (does_move rfl) ?_; intro a H
                                apply still_guard (i := 22) (g := 131) (t := 135) (b := true) 4 H rfl rfl (by kernel_rfl) (by kernel_rfl) rfl rfl
                                case h1 =>
                                  intro hg23
                                  have hq23 := hg23; try simp only [Bool.or_eq_true, Bool.and_eq_true, Bool.not_eq_true', Bool.or_eq_false_iff, Bool.and_eq_false_iff, Bool.not_eq_false', decide_eq_true_eq, decide_eq_false_iff_not, Int.not_lt, Int.not_le] at hq23
                                  refine still_yes' H rfl rfl (by assumption) ?_
                                  refine still_does H rfl (by first | exact does_field_pt fo_70_4 rfl | exact does_field fo_70_4 rfl) ?_; intro a H
                                  refine still_yes' H rfl rfl (by assumption) ?_
                                  refine still_does H rfl (by first | exact does_loadIn agg_42 sz_42 rfl S hl (by omega) (by omega) | exact does_loadIn agg_42 sz_42 rfl S hr (by omega) (by omega) | exact does_loadBox agg_42 sz_42 rfl S (i := 0) rfl rfl | exact does_loadBox agg_42 sz_42 rfl S (i := 1) rfl rfl) ?_; intro a H
                                  refine still_yes' H rfl rfl (by assumption) ?_
                                  refine still_does H rfl (does_build bt_42 rfl rfl) ?_; intro a H
                                  refine still_yes' H rfl rfl (by assumption) ?_
                                  refine still_does H rfl (does_neq_span rfl rfl) ?_; intro a H
                                  exact wpStill_nil (H.strip 4 rfl rfl)
                                case k =>
                                  intro a H
                                  refine still_yes' H rfl rfl (by assumption) ?_
                                  refine still_does H rfl (by first | exact does_and rfl rfl rfl | exact does_pick rfl rfl rfl) ?_; intro a H
                                  exact wpStill_nil (H.strip 6 rfl rfl)
                              case k =>
                                clear H a; intro a H
                                refine still_does H rfl (by first | exact does_or rfl rfl rfl | exact does_pick rfl rfl rfl) ?_; clear H a; intro a H
                                refine wpStill_nil (hK27 _ ?_)
                                clear hK27 K27
                                refine cond_ H rfl (fun hc7 => ?_) (fun hc7 => ?_)
                                · try simp only [Bool.or_eq_true, Bool.and_eq_true, Bool.not_eq_true', Bool.or_eq_false_iff, Bool.and_eq_false_iff, Bool.not_eq_false', decide_eq_true_eq, decide_eq_false_iff_not, Int.not_lt, Int.not_le] at hc7
                                  replace H := H.keep [] rfl
                                  refine seq_still (fun K28 hK28 => ?_)
                                  refine still_does H rfl (does_assign rfl) ?_; clear H a; intro a H
                                  refine wpStill_nil (hK28 _ ?_)
                                  clear hK28 K28
                                  refine wp_ret ?_
                                  refine ret1 (fn := Try.f36) rfl H rfl ?_
                                  refine ⟨?_, (S.sel [] rfl rfl)⟩; unfold checkP; rw [if_pos hhd, if_pos hrt, if_pos (by omega)]; unfold usesTo; rw [range_all_false (k := j) (by omega) (by unfold useOk; simp only [decide_eq_false_iff_not]; generalize l.getD j Use.zero = u at hc6 hc7 ⊢; rintro ⟨_, _, _, _, hm⟩; cases hq : u.meas <;> simp [hq] at hc7 hm <;> omega)]; rfl
                                · try simp only [Bool.or_eq_true, Bool.and_eq_true, Bool.not_eq_true', Bool.or_eq_false_iff, Bool.and_eq_false_iff, Bool.not_eq_false', decide_eq_true_eq, decide_eq_false_iff_not, Int.not_lt, Int.not_le] at hc7
                                  refine wp_skip ?_
                                  refine hK22 _ _ ?_
                                  replace H := H.keep [1, 2, 6] rfl
                                  refine one_still ?_
                                  refine still_does H rfl (does_move rfl) ?_; clear H a; intro a H
                                  refine still_does H rfl (does_add rfl rfl (by unfold i64ok; omega)) ?_; clear H a; intro a H
                                  refine still_does H rfl (does_assign rfl) ?_; clear H a; intro a H
                                  refine wpStill_nil ?_
                                  exact hK19 (g2 - 1) (j + 1) a _ (by omega) (⟨by omega, by omega, by unfold usesTo; rw [range_all_succ (n := 0)]; have h9 := hp.2.2; unfold usesTo at h9; rw [h9]; simp only [Bool.true_and]; unfold useOk; simp only [decide_eq_true_eq]; rw [hpd] at hpn ⊢; generalize (l.getD (j - 1) Use.zero).day = pd at hc6 hpn ⊢; generalize l.getD j Use.zero = u at hc6 hc7 ⊢; cases hq : u.meas <;> simp [hq] at hc7 ⊢ <;> omega⟩) (S.sel [1] rfl rfl) (H.keep [6, 1, 2] rfl)
                  · try simp only [Bool.or_eq_true, Bool.and_eq_true, Bool.not_eq_true', Bool.or_eq_false_iff, Bool.and_eq_false_iff, Bool.not_eq_false', decide_eq_true_eq, decide_eq_false_iff_not, Int.not_lt, Int.not_le] at hc5
                    refine wp_exit ?_
                    refine hK17 _ _ ?_
                    replace H := H.keep [] rfl
                    refine seq_still (fun K30 hK30 => ?_)
                    refine still_does H rfl (does_assign rfl) ?_; clear H a; intro a H
                    refine wpStill_nil (hK30 _ ?_)
                    clear hK30 K30
                    refine wp_ret ?_
                    refine ret1 (fn := Try.f36) rfl H rfl ?_
                    refine ⟨?_, (S.sel [] rfl rfl)⟩; have hj9 : j = l.length := by omega
                    unfold checkP; rw [if_pos hhd, if_pos hrt, if_pos (by omega)]; rw [hj9] at hp; dsimp only; rw [if_pos hp.2.2]

set_option maxRecDepth 100000 in
set_option maxHeartbeats 1000000 in
theorem ref_grown (rates : List (Int × Int)) (pwn ptn pag : Int) (RA : Option Addr) (rcp : Nat) (s1 s2 : Int) (u : Use) (w : World) (hr : InS w noF 2 RA rates.length (scell rates)) (hrn : rates.length ≤ 9223372036854775807) (hcl : 0 ≤ u.cls ∧ u.cls < rates.length) (hg1 : i64ok (grownS (⟨rates, pwn, ptn, pag⟩ : Part) u).1) (hg2 : i64ok (grownS (⟨rates, pwn, ptn, pag⟩ : Part) u).2) (hg3 : i64ok (s1 + (grownS (⟨rates, pwn, ptn, pag⟩ : Part) u).1)) (hg4 : i64ok (s2 + (grownS (⟨rates, pwn, ptn, pag⟩ : Part) u).2)) :
    Calls Try.prog 88 [.agg [.slice RA rates.length rcp, .int .i64 pwn, .int .i64 ptn, .int .i64 pag].toArray, .agg [.int .i64 s1, .int .i64 s2].toArray, .agg [.int .i64 u.day, .int .i64 u.turns, .int .i64 u.cls, .bool u.meas, .int .i64 u.lo, .int .i64 u.hi].toArray].toArray w (Ret (fun v w' => v = .agg [.int .i64 (fstep (⟨rates, pwn, ptn, pag⟩ : Part) (s1, s2) u).1, .int .i64 (fstep (⟨rates, pwn, ptn, pag⟩ : Part) (s1, s2) u).2].toArray ∧ St w noF [] w')) := by
  refine enter Try.func88 rfl Try.ntmps88 rfl (fun a H => ?_)
  have S := St.start w
  refine seq_list (fun K1 hK1 => ?_)
  refine list_box H rfl S rfl rfl ?_; clear H a S; intro b3 _ a hb3 hbw3 S H
  refine list_box H rfl S rfl rfl ?_; clear H a S; intro b4 _ a hb4 hbw4 S H
  refine list_box H rfl S rfl rfl ?_; clear H a S; intro b5 _ a hb5 hbw5 S H
  refine list_alloc H rfl S ze_42 ?_; clear H a S; intro b6 _ a hb6 hbw6 S H
  refine hK1 _ _ ?_
  clear hK1 K1
  replace H := H.keep [3, 4, 5, 6] rfl
  refine seq_list (fun K2 hK2 => ?_)
  refine list_does H rfl (by first | exact does_field_pt fo_62_0 rfl | exact does_field fo_62_0 rfl) ?_; clear H a; intro a H
  refine list_does H rfl (does_load one_37 rfl (by first | exact boxM.rd S (i := 0) rfl rfl | exact boxM.rd S (i := 1) rfl rfl | exact boxM.rd S (i := 2) rfl rfl | exact boxM.rd S (i := 3) rfl rfl)) ?_; clear H a; intro a H
  refine list_does H rfl (by first | exact does_field_pt fo_70_2 rfl | exact does_field fo_70_2 rfl) ?_; clear H a; intro a H
  refine list_does H rfl (does_load one_3 rfl (by first | exact boxM.rd S (i := 0) rfl rfl | exact boxM.rd S (i := 1) rfl rfl | exact boxM.rd S (i := 2) rfl rfl | exact boxM.rd S (i := 3) rfl rfl)) ?_; clear H a; intro a H
  refine list_does H rfl (by first | exact does_indexN sl_37 sz_42 rfl rfl (by first | exact hr.adr (by omega)) (by first | omega | omega) | exact does_index sl_37 sz_42 rfl rfl (by first | exact hr.adr (by omega)) (by omega) (by first | omega | omega)) ?_; clear H a; intro a H
  refine list_does H rfl (by first | exact does_loadIn agg_42 sz_42 rfl S hr (by omega) (by omega) | exact does_loadBox agg_42 sz_42 rfl S (i := 0) rfl rfl | exact does_loadBox agg_42 sz_42 rfl S (i := 1) rfl rfl | exact does_loadBox agg_42 sz_42 rfl S (i := 2) rfl rfl | exact does_loadBox agg_42 sz_42 rfl S (i := 3) rfl rfl) ?_; clear H a; intro a H
  refine list_alloc H rfl S ze_42 ?_; clear H a S; intro b7 _ a hb7 hbw7 S H
  first | (refine list_store H S (i := 0) rfl rfl rfl rfl sz_42 rfl rfl ?_) | (refine list_store H S (i := 1) rfl rfl rfl rfl sz_42 rfl rfl ?_) | (refine list_store H S (i := 2) rfl rfl rfl rfl sz_42 rfl rfl ?_) | (refine list_store H S (i := 3) rfl rfl rfl rfl sz_42 rfl rfl ?_) | (refine list_store H S (i := 4) rfl rfl rfl rfl sz_42 rfl rfl ?_) | (refine list_store_own H S (i := 0) rfl rfl rfl (by omega) (by omega) sz_42 rfl ?_) | (refine list_store_own H S (i := 1) rfl rfl rfl (by omega) (by omega) sz_42 rfl ?_) | (refine list_store_own H S (i := 2) rfl rfl rfl (by omega) (by omega) sz_42 rfl ?_) | (refine list_store_own H S (i := 3) rfl rfl rfl (by omega) (by omega) sz_42 rfl ?_) | (refine list_store_own H S (i := 4) rfl rfl rfl (by omega) (by omega) sz_42 rfl ?_)
  clear H a S; intro _ a S H
  refine hK2 _ _ ?_
  clear hK2 K2
  replace H := H.keep [4, 5, 6, 7] rfl
  refine seq_list (fun K3 hK3 => ?_)
  refine list_does H rfl (by first | exact does_field_pt fo_42_0 rfl | exact does_field fo_42_0 rfl) ?_; clear H a; intro a H
  refine list_does H rfl (does_load one_3 rfl (by first | exact boxM.rd S (i := 0) rfl rfl | exact boxM.rd S (i := 1) rfl rfl | exact boxM.rd S (i := 2) rfl rfl | exact boxM.rd S (i := 3) rfl rfl | exact boxM.rd S (i := 4) rfl rfl)) ?_; clear H a; intro a H
  refine list_does H rfl (by first | exact does_field_pt fo_70_1 rfl | exact does_field fo_70_1 rfl) ?_; clear H a; intro a H
  refine list_does H rfl (does_load one_3 rfl (by first | exact boxM.rd S (i := 0) rfl rfl | exact boxM.rd S (i := 1) rfl rfl | exact boxM.rd S (i := 2) rfl rfl | exact boxM.rd S (i := 3) rfl rfl | exact boxM.rd S (i := 4) rfl rfl)) ?_; clear H a; intro a H
  refine list_does H rfl (by first | exact does_field_pt fo_42_0 rfl | exact does_field fo_42_0 rfl) ?_; clear H a; intro a H
  refine list_does H rfl (does_load one_3 rfl (by first | exact boxM.rd S (i := 0) rfl rfl | exact boxM.rd S (i := 1) rfl rfl | exact boxM.rd S (i := 2) rfl rfl | exact boxM.rd S (i := 3) rfl rfl | exact boxM.rd S (i := 4) rfl rfl)) ?_; clear H a; intro a H
  refine list_does H rfl (does_mul rfl rfl (by exact hg1)) ?_; clear H a; intro a H
  refine list_does H rfl (does_add rfl rfl (by exact hg3)) ?_; clear H a; intro a H
  refine list_does H rfl (by first | exact does_field_pt fo_42_1 rfl | exact does_field fo_42_1 rfl) ?_; clear H a; intro a H
  refine list_does H rfl (does_load one_3 rfl (by first | exact boxM.rd S (i := 0) rfl rfl | exact boxM.rd S (i := 1) rfl rfl | exact boxM.rd S (i := 2) rfl rfl | exact boxM.rd S (i := 3) rfl rfl | exact boxM.rd S (i := 4) rfl rfl)) ?_; clear H a; intro a H
  refine list_does H rfl (by first | exact does_field_pt fo_70_1 rfl | exact does_field fo_70_1 rfl) ?_; clear H a; intro a H
  refine list_does H rfl (does_load one_3 rfl (by first | exact boxM.rd S (i := 0) rfl rfl | exact boxM.rd S (i := 1) rfl rfl | exact boxM.rd S (i := 2) rfl rfl | exact boxM.rd S (i := 3) rfl rfl | exact boxM.rd S (i := 4) rfl rfl)) ?_; clear H a; intro a H
  refine list_does H rfl (by first | exact does_field_pt fo_42_1 rfl | exact does_field fo_42_1 rfl) ?_; clear H a; intro a H
  refine list_does H rfl (does_load one_3 rfl (by first | exact boxM.rd S (i := 0) rfl rfl | exact boxM.rd S (i := 1) rfl rfl | exact boxM.rd S (i := 2) rfl rfl | exact boxM.rd S (i := 3) rfl rfl | exact boxM.rd S (i := 4) rfl rfl)) ?_; clear H a; intro a H
  refine list_does H rfl (does_mul rfl rfl (by exact hg2)) ?_; clear H a; intro a H
  refine list_does H rfl (does_add rfl rfl (by exact hg4)) ?_; clear H a; intro a H
  refine list_does H rfl (does_build bt_42 rfl rfl) ?_; clear H a; intro a H
  refine list_alloc H rfl S ze_42 ?_; clear H a S; intro b8 _ a hb8 hbw8 S H
  first | (refine list_store H S (i := 0) rfl rfl rfl rfl sz_42 rfl rfl ?_) | (refine list_store H S (i := 1) rfl rfl rfl rfl sz_42 rfl rfl ?_) | (refine list_store H S (i := 2) rfl rfl rfl rfl sz_42 rfl rfl ?_) | (refine list_store H S (i := 3) rfl rfl rfl rfl sz_42 rfl rfl ?_) | (refine list_store H S (i := 4) rfl rfl rfl rfl sz_42 rfl rfl ?_) | (refine list_store H S (i := 5) rfl rfl rfl rfl sz_42 rfl rfl ?_) | (refine list_store_own H S (i := 0) rfl rfl rfl (by omega) (by omega) sz_42 rfl ?_) | (refine list_store_own H S (i := 1) rfl rfl rfl (by omega) (by omega) sz_42 rfl ?_) | (refine list_store_own H S (i := 2) rfl rfl rfl (by omega) (by omega) sz_42 rfl ?_) | (refine list_store_own H S (i := 3) rfl rfl rfl (by omega) (by omega) sz_42 rfl ?_) | (refine list_store_own H S (i := 4) rfl rfl rfl (by omega) (by omega) sz_42 rfl ?_) | (refine list_store_own H S (i := 5) rfl rfl rfl (by omega) (by omega) sz_42 rfl ?_)
  clear H a S; intro _ a S H
  refine hK3 _ _ ?_
  clear hK3 K3
  have SR := (S.sel [1, 2, 3, 4, 5] rfl rfl)
  refine meet_sr (X := Unit) [6, 8] H rfl (fun x => []) (fun x => [boxM b8 42 [.int .i64 (fstep (⟨rates, pwn, ptn, pag⟩ : Part) (s1, s2) u).1, .int .i64 (fstep (⟨rates, pwn, ptn, pag⟩ : Part) (s1, s2) u).2]]) (fun x => True) SR (fun K5 hK5 => ?_) ?_
  · skip
    replace H := H.keep [5, 6, 8] rfl
    refine seq_still (fun K6 hK6 => ?_)
    refine still_does H rfl (by first | exact does_field_pt fo_70_3 rfl | exact does_field fo_70_3 rfl) ?_; clear H a; intro a H
    refine still_does H rfl (does_load one_4 rfl (by first | exact boxM.rd S (i := 0) rfl rfl | exact boxM.rd S (i := 1) rfl rfl | exact boxM.rd S (i := 2) rfl rfl | exact boxM.rd S (i := 3) rfl rfl | exact boxM.rd S (i := 4) rfl rfl | exact boxM.rd S (i := 5) rfl rfl)) ?_; clear H a; intro a H
    refine wpStill_nil (hK6 _ ?_)
    clear hK6 K6
    refine cond_ H rfl (fun hc1 => ?_) (fun hc1 => ?_)
    · try simp only [Bool.or_eq_true, Bool.and_eq_true, Bool.not_eq_true', Bool.or_eq_false_iff, Bool.and_eq_false_iff, Bool.not_eq_false', decide_eq_true_eq, decide_eq_false_iff_not, Int.not_lt, Int.not_le] at hc1
      replace H := H.keep [5, 6, 8] rfl
      refine one_list ?_
      refine list_does H rfl (by first | exact does_field_pt fo_42_0 rfl | exact does_field fo_42_0 rfl) ?_; clear H a; intro a H
      refine list_does H rfl (does_load one_3 rfl (by first | exact boxM.rd S (i := 0) rfl rfl | exact boxM.rd S (i := 1) rfl rfl | exact boxM.rd S (i := 2) rfl rfl | exact boxM.rd S (i := 3) rfl rfl | exact boxM.rd S (i := 4) rfl rfl | exact boxM.rd S (i := 5) rfl rfl)) ?_; clear H a; intro a H
      refine list_does H rfl (by first | exact does_field_pt fo_70_4 rfl | exact does_field fo_70_4 rfl) ?_; clear H a; intro a H
      refine list_does H rfl (by first | exact does_field_pt fo_42_0 rfl | exact does_field fo_42_0 rfl) ?_; clear H a; intro a H
      refine list_does H rfl (does_load one_3 rfl (by first | exact boxM.rd S (i := 0) rfl rfl | exact boxM.rd S (i := 1) rfl rfl | exact boxM.rd S (i := 2) rfl rfl | exact boxM.rd S (i := 3) rfl rfl | exact boxM.rd S (i := 4) rfl rfl | exact boxM.rd S (i := 5) rfl rfl)) ?_; clear H a; intro a H
      refine list_does H rfl (does_max rfl rfl) ?_; clear H a; intro a H
      refine list_does H rfl (by first | exact does_field_pt fo_42_1 rfl | exact does_field fo_42_1 rfl) ?_; clear H a; intro a H
      refine list_does H rfl (does_load one_3 rfl (by first | exact boxM.rd S (i := 0) rfl rfl | exact boxM.rd S (i := 1) rfl rfl | exact boxM.rd S (i := 2) rfl rfl | exact boxM.rd S (i := 3) rfl rfl | exact boxM.rd S (i := 4) rfl rfl | exact boxM.rd S (i := 5) rfl rfl)) ?_; clear H a; intro a H
      refine list_does H rfl (by first | exact does_field_pt fo_70_4 rfl | exact does_field fo_70_4 rfl) ?_; clear H a; intro a H
      refine list_does H rfl (by first | exact does_field_pt fo_42_1 rfl | exact does_field fo_42_1 rfl) ?_; clear H a; intro a H
      refine list_does H rfl (does_load one_3 rfl (by first | exact boxM.rd S (i := 0) rfl rfl | exact boxM.rd S (i := 1) rfl rfl | exact boxM.rd S (i := 2) rfl rfl | exact boxM.rd S (i := 3) rfl rfl | exact boxM.rd S (i := 4) rfl rfl | exact boxM.rd S (i := 5) rfl rfl)) ?_; clear H a; intro a H
      refine list_does H rfl (does_min rfl rfl) ?_; clear H a; intro a H
      refine list_does H rfl (does_build bt_42 rfl rfl) ?_; clear H a; intro a H
      first | (refine list_store H S (i := 0) rfl rfl rfl rfl sz_42 rfl rfl ?_) | (refine list_store H S (i := 1) rfl rfl rfl rfl sz_42 rfl rfl ?_) | (refine list_store H S (i := 2) rfl rfl rfl rfl sz_42 rfl rfl ?_) | (refine list_store H S (i := 3) rfl rfl rfl rfl sz_42 rfl rfl ?_) | (refine list_store H S (i := 4) rfl rfl rfl rfl sz_42 rfl rfl ?_) | (refine list_store H S (i := 5) rfl rfl rfl rfl sz_42 rfl rfl ?_) | (refine list_store_own H S (i := 0) rfl rfl rfl (by omega) (by omega) sz_42 rfl ?_) | (refine list_store_own H S (i := 1) rfl rfl rfl (by omega) (by omega) sz_42 rfl ?_) | (refine list_store_own H S (i := 2) rfl rfl rfl (by omega) (by omega) sz_42 rfl ?_) | (refine list_store_own H S (i := 3) rfl rfl rfl (by omega) (by omega) sz_42 rfl ?_) | (refine list_store_own H S (i := 4) rfl rfl rfl (by omega) (by omega) sz_42 rfl ?_) | (refine list_store_own H S (i := 5) rfl rfl rfl (by omega) (by omega) sz_42 rfl ?_)
      clear H a S; intro _ a S H
      have e9 : fstep (⟨rates, pwn, ptn, pag⟩ : Part) (s1, s2) u = meetS (addS (s1, s2) (grownS (⟨rates, pwn, ptn, pag⟩ : Part) u)) (u.lo, u.hi) := by unfold fstep; rw [if_pos hc1]
      replace S := boxM.same S (i := 0) (cs' := [.int .i64 (fstep (⟨rates, pwn, ptn, pag⟩ : Part) (s1, s2) u).1, .int .i64 (fstep (⟨rates, pwn, ptn, pag⟩ : Part) (s1, s2) u).2]) rfl (by rw [e9]; rfl)
      exact hK5 () a _ (trivial) (S.sel [0, 1, 2, 3, 4, 5] rfl rfl) (H.keep [6, 8] rfl)
    · try simp only [Bool.or_eq_true, Bool.and_eq_true, Bool.not_eq_true', Bool.or_eq_false_iff, Bool.and_eq_false_iff, Bool.not_eq_false', decide_eq_true_eq, decide_eq_false_iff_not, Int.not_lt, Int.not_le] at hc1
      refine wp_skip ?_
      have e9 : fstep (⟨rates, pwn, ptn, pag⟩ : Part) (s1, s2) u = addS (s1, s2) (grownS (⟨rates, pwn, ptn, pag⟩ : Part) u) := by unfold fstep; rw [if_neg (by rw [hc1]; simp)]
      replace S := boxM.same S (i := 0) (cs' := [.int .i64 (fstep (⟨rates, pwn, ptn, pag⟩ : Part) (s1, s2) u).1, .int .i64 (fstep (⟨rates, pwn, ptn, pag⟩ : Part) (s1, s2) u).2]) rfl (by rw [e9]; rfl)
      exact hK5 () a _ (trivial) (S.sel [0, 1, 2, 3, 4, 5] rfl rfl) (H.keep [6, 8] rfl)
  · intro xm a wm hp S H
    obtain ⟨x, rfl⟩ : ∃ y, y = xm := ⟨_, rfl⟩
    clear SR
    replace H := H.keep [6, 8] rfl
    refine seq_list (fun K8 hK8 => ?_)
    refine list_does H rfl (by first | exact does_loadIn agg_42 sz_42 rfl S hr (by omega) (by omega) | exact does_loadBox agg_42 sz_42 rfl S (i := 0) rfl rfl | exact does_loadBox agg_42 sz_42 rfl S (i := 1) rfl rfl | exact does_loadBox agg_42 sz_42 rfl S (i := 2) rfl rfl | exact does_loadBox agg_42 sz_42 rfl S (i := 3) rfl rfl | exact does_loadBox agg_42 sz_42 rfl S (i := 4) rfl rfl | exact does_loadBox agg_42 sz_42 rfl S (i := 5) rfl rfl) ?_; clear H a; intro a H
    first | (refine list_store H S (i := 0) rfl rfl rfl rfl sz_42 rfl rfl ?_) | (refine list_store H S (i := 1) rfl rfl rfl rfl sz_42 rfl rfl ?_) | (refine list_store H S (i := 2) rfl rfl rfl rfl sz_42 rfl rfl ?_) | (refine list_store H S (i := 3) rfl rfl rfl rfl sz_42 rfl rfl ?_) | (refine list_store H S (i := 4) rfl rfl rfl rfl sz_42 rfl rfl ?_) | (refine list_store H S (i := 5) rfl rfl rfl rfl sz_42 rfl rfl ?_) | (refine list_store_own H S (i := 0) rfl rfl rfl (by omega) (by omega) sz_42 rfl ?_) | (refine list_store_own H S (i := 1) rfl rfl rfl (by omega) (by omega) sz_42 rfl ?_) | (refine list_store_own H S (i := 2) rfl rfl rfl (by omega) (by omega) sz_42 rfl ?_) | (refine list_store_own H S (i := 3) rfl rfl rfl (by omega) (by omega) sz_42 rfl ?_) | (refine list_store_own H S (i := 4) rfl rfl rfl (by omega) (by omega) sz_42 rfl ?_) | (refine list_store_own H S (i := 5) rfl rfl rfl (by omega) (by omega) sz_42 rfl ?_)
    clear H a S; intro _ a S H
    refine hK8 _ _ ?_
    clear hK8 K8
    refine wp_ret ?_
    refine retA (fn := Try.f88) rfl H rfl agg_42 (by exact sz_42) (boxAgg S (i := 2) rfl) ?_
    exact ⟨rfl, (S.sel [] rfl rfl)⟩

set_option maxRecDepth 100000 in
set_option maxHeartbeats 1000000 in
theorem ref_forward (rates : List (Int × Int)) (pwn ptn pag : Int) (RA : Option Addr) (rcp : Nat) (l : List Use) (A : Option Addr) (cp : Nat) (w : World) (hr : InS w noF 2 RA rates.length (scell rates)) (hrn : rates.length ≤ 9223372036854775807) (hl : InS w noF 6 A l.length (ucell l)) (hn : l.length ≤ 9223372036854775807) (hok : PartOk (⟨rates, pwn, ptn, pag⟩ : Part) l) :
    Calls Try.prog 75 [.agg [.slice RA rates.length rcp, .int .i64 pwn, .int .i64 ptn, .int .i64 pag].toArray, .slice A l.length cp].toArray w (Ret (FwdR w (⟨rates, pwn, ptn, pag⟩ : Part) l)) := by
  refine enter Try.func75 rfl Try.ntmps75 rfl (fun a H => ?_)
  have S := St.start w
  refine seq_list (fun K1 hK1 => ?_)
  refine list_box H rfl S rfl rfl ?_; clear H a S; intro b2 _ a hb2 hbw2 S H
  refine list_does H rfl (does_assign rfl) ?_; clear H a; intro a H
  refine list_does H rfl (does_assign rfl) ?_; clear H a; intro a H
  refine hK1 _ _ ?_
  clear hK1 K1
  replace H := H.keep [1, 2] rfl
  refine seq_still (fun K2 hK2 => ?_)
  refine still_does H rfl (does_assign rfl) ?_; clear H a; intro a H
  refine wpStill_nil (hK2 _ ?_)
  clear hK2 K2
  replace H := H.keep [1, 2, 6] rfl
  refine seq_list (fun K3 hK3 => ?_)
  refine list_does H rfl (does_build bt_42 rfl rfl) ?_; clear H a; intro a H
  refine list_alloc H rfl S ze_42 ?_; clear H a S; intro b7 _ a hb7 hbw7 S H
  first | (refine list_store H S (i := 0) rfl rfl rfl rfl sz_42 rfl rfl ?_) | (refine list_store H S (i := 1) rfl rfl rfl rfl sz_42 rfl rfl ?_) | (refine list_store_own H S (i := 0) rfl rfl rfl (by omega) (by omega) sz_42 rfl ?_) | (refine list_store_own H S (i := 1) rfl rfl rfl (by omega) (by omega) sz_42 rfl ?_)
  clear H a S; intro _ a S H
  refine hK3 _ _ ?_
  clear hK3 K3
  refine wp_seq_k (fun K4 hK4 => ?_)
  replace H := H.keep [1, 2, 6, 7] rfl
  refine seq_still (fun K5 hK5 => ?_)
  refine still_does H rfl (does_assign rfl) ?_; clear H a; intro a H
  refine wpStill_nil (hK5 _ ?_)
  clear hK5 K5
  refine wp_block ?_
  replace S := S.newNil 42 2 (fcell (fun q => fwd (⟨rates, pwn, ptn, pag⟩ : Part) l (q + 1)))
  refine loop_st (X := Nat × Option Addr × Nat) (R0 := _) [1, 2, 7] H rfl (fun ⟨k, A', c'⟩ => [(6, .slice A' k c'), (8, .int .i64 (k : Int))]) (fun ⟨k, A', c'⟩ => [boxM b7 42 [.int .i64 (fwd (⟨rates, pwn, ptn, pag⟩ : Part) l k).1, .int .i64 (fwd (⟨rates, pwn, ptn, pag⟩ : Part) l k).2], ownM 42 2 A' k c' (fcell (fun q => fwd (⟨rates, pwn, ptn, pag⟩ : Part) l (q + 1)))]) (fun g ⟨k, A', c'⟩ => k ≤ l.length ∧ g + k = l.length ∧ ∀ q, q < k → fits (⟨rates, pwn, ptn, pag⟩ : Part) l q) (l.length) (0, none, 0) ?_ (S.sel [1, 0, 2] rfl rfl) (H.keep [6, 8, 1, 2, 7] rfl) ?_
  · exact ⟨by omega, by omega, fun q hq => by omega⟩
  · intro g1 x1 a w1 hp S H K6 hK6
    obtain ⟨k, A', c'⟩ := x1
    dsimp only at hp S H
    refine wp_seq_k (fun K7 hK7 => ?_)
    replace H := H.keep [1, 2, 6, 7, 8] rfl
    refine seq_still (fun K8 hK8 => ?_)
    refine still_does H rfl (does_move rfl) ?_; clear H a; intro a H
    refine still_does H rfl (does_move rfl) ?_; clear H a; intro a H
    refine still_does H rfl (does_len sl_63 rfl) ?_; clear H a; intro a H
    refine still_does H rfl (does_lss rfl rfl) ?_; clear H a; intro a H
    refine wpStill_nil (hK8 _ ?_)
    clear hK8 K8
    refine cond_ H rfl (fun hc1 => ?_) (fun hc1 => ?_)
    · try simp only [Bool.or_eq_true, Bool.and_eq_true, Bool.not_eq_true', Bool.or_eq_false_iff, Bool.and_eq_false_iff, Bool.not_eq_false', decide_eq_true_eq, decide_eq_false_iff_not, Int.not_lt, Int.not_le] at hc1
      refine wp_skip ?_
      refine hK7 _ _ ?_
      refine wp_seq_k (fun K9 hK9 => ?_)
      refine wp_block ?_
      have hu := hok.use (k := k) (by omega); unfold useOk at hu; simp only [decide_eq_true_eq] at hu
      have hgb := grown_bd hok (k := k) (by omega)
      have hcls : 0 ≤ (l.getD k Use.zero).cls ∧ (l.getD k Use.zero).cls < rates.length := by
        have : ((⟨rates, pwn, ptn, pag⟩ : Part).rates.length : Int) = rates.length := rfl
        omega
      have hll := hok.len
      have hfb := fwd_bd hok k (by omega)
      replace H := H.keep [1, 2, 6, 7, 8] rfl
      refine seq_tail 6 (by kernel_rfl) (by kernel_rfl) (fun K10 hK10 => ?_)
      replace S := S.drew
      refine still_does H rfl (by first | exact does_loadIn agg_62 sz_62 rfl S hl (by omega) (by omega) | exact does_loadIn agg_62 sz_62 rfl S hr (by omega) (by omega) | exact does_loadBox agg_62 sz_62 rfl S (i := 0) rfl rfl | exact does_loadBox agg_62 sz_62 rfl S (i := 1) rfl rfl | exact does_loadBox agg_62 sz_62 rfl S (i := 2) rfl rfl) ?_; clear H a; intro a H
      refine still_does H rfl (by first | exact does_loadIn agg_42 sz_42 rfl S hl (by omega) (by omega) | exact does_loadIn agg_42 sz_42 rfl S hr (by omega) (by omega) | exact does_loadBox agg_42 sz_42 rfl S (i := 0) rfl rfl | exact does_loadBox agg_42 sz_42 rfl S (i := 1) rfl rfl | exact does_loadBox agg_42 sz_42 rfl S (i := 2) rfl rfl) ?_; clear H a; intro a H
      refine still_does H rfl (does_move rfl) ?_; clear H a; intro a H
      refine still_does H rfl (does_move rfl) ?_; clear H a; intro a H
      refine still_does H rfl (by first | exact does_indexN sl_63 sz_70 rfl rfl (by first | exact hl.adr (by omega) | exact hr.adr (by omega)) (by first | omega | omega) | exact does_index sl_63 sz_70 rfl rfl (by first | exact hl.adr (by omega) | exact hr.adr (by omega)) (by omega) (by first | omega | omega)) ?_; clear H a; intro a H
      refine still_does H rfl (by first | exact does_loadIn agg_70 sz_70 rfl S hl (by omega) (by omega) | exact does_loadIn agg_70 sz_70 rfl S hr (by omega) (by omega) | exact does_loadBox agg_70 sz_70 rfl S (i := 0) rfl rfl | exact does_loadBox agg_70 sz_70 rfl S (i := 1) rfl rfl | exact does_loadBox agg_70 sz_70 rfl S (i := 2) rfl rfl) ?_; clear H a; intro a H
      refine wpStill_nil ?_
      refine list_call H rfl rfl Try.func88 rfl rfl (ref_grown rates pwn ptn pag RA rcp (fwd (⟨rates, pwn, ptn, pag⟩ : Part) l k).1 (fwd (⟨rates, pwn, ptn, pag⟩ : Part) l k).2 (l.getD k Use.zero) _ (hr.now S) hrn hcls (by unfold i64ok; omega) (by unfold i64ok; omega) (by unfold i64ok; omega) (by unfold i64ok; omega)) ?_; clear H a
      rintro _ _ a ⟨rfl, S2⟩ H
      replace S := S.call S2; clear S2
      first | (refine list_store H S (i := 0) rfl rfl rfl rfl sz_42 rfl rfl ?_) | (refine list_store H S (i := 1) rfl rfl rfl rfl sz_42 rfl rfl ?_) | (refine list_store H S (i := 2) rfl rfl rfl rfl sz_42 rfl rfl ?_) | (refine list_store_own H S (i := 0) rfl rfl rfl (by omega) (by omega) sz_42 rfl ?_) | (refine list_store_own H S (i := 1) rfl rfl rfl (by omega) (by omega) sz_42 rfl ?_) | (refine list_store_own H S (i := 2) rfl rfl rfl (by omega) (by omega) sz_42 rfl ?_)
      clear H a S; intro _ a S H
      refine hK10 _ _ ?_
      clear hK10 K10
      refine wp_seq_k (fun K11 hK11 => ?_)
      replace H := H.keep [1, 2, 6, 7, 8] rfl
      refine seq_still (fun K12 hK12 => ?_)
      refine still_does H rfl (by first | exact does_field_pt fo_42_0 rfl | exact does_field fo_42_0 rfl) ?_; clear H a; intro a H
      refine still_does H rfl (does_load one_3 rfl (by first | exact boxM.rd S (i := 0) rfl rfl | exact boxM.rd S (i := 1) rfl rfl | exact boxM.rd S (i := 2) rfl rfl)) ?_; clear H a; intro a H
      refine still_does H rfl (by first | exact does_field_pt fo_42_1 rfl | exact does_field fo_42_1 rfl) ?_; clear H a; intro a H
      refine still_does H rfl (does_load one_3 rfl (by first | exact boxM.rd S (i := 0) rfl rfl | exact boxM.rd S (i := 1) rfl rfl | exact boxM.rd S (i := 2) rfl rfl)) ?_; clear H a; intro a H
      refine still_does H rfl (does_gtr rfl rfl) ?_; clear H a; intro a H
      refine wpStill_nil (hK12 _ ?_)
      clear hK12 K12
      refine cond_ H rfl (fun hc2 => ?_) (fun hc2 => ?_)
      · try simp only [Bool.or_eq_true, Bool.and_eq_true, Bool.not_eq_true', Bool.or_eq_false_iff, Bool.and_eq_false_iff, Bool.not_eq_false', decide_eq_true_eq, decide_eq_false_iff_not, Int.not_lt, Int.not_le] at hc2
        replace hc2 : (fwd (⟨rates, pwn, ptn, pag⟩ : Part) l (k + 1)).2 < (fwd (⟨rates, pwn, ptn, pag⟩ : Part) l (k + 1)).1 := hc2
        replace H := H.keep [8] rfl
        refine seq_still (fun K13 hK13 => ?_)
        refine still_does H rfl (does_move rfl) ?_; clear H a; intro a H
        refine still_does H rfl (does_assign rfl) ?_; clear H a; intro a H
        refine still_does H rfl (does_assign rfl) ?_; clear H a; intro a H
        refine wpStill_nil (hK13 _ ?_)
        clear hK13 K13
        refine wp_ret ?_
        refine ret2 (fn := Try.f75) rfl H rfl rfl ?_
        have e9 : atN (⟨rates, pwn, ptn, pag⟩ : Part) l = k := atN_eq ⟨by omega, hp.2.2, fun _ hf => absurd ((fits_iff hok (by omega) hp.2.2).1 hf) (Int.not_le.2 hc2)⟩
        exact .inr ⟨by omega, by rw [e9], (S.sel [] rfl rfl)⟩
      · try simp only [Bool.or_eq_true, Bool.and_eq_true, Bool.not_eq_true', Bool.or_eq_false_iff, Bool.and_eq_false_iff, Bool.not_eq_false', decide_eq_true_eq, decide_eq_false_iff_not, Int.not_lt, Int.not_le] at hc2
        replace hc2 : (fwd (⟨rates, pwn, ptn, pag⟩ : Part) l (k + 1)).1 ≤ (fwd (⟨rates, pwn, ptn, pag⟩ : Part) l (k + 1)).2 := hc2
        refine wp_skip ?_
        refine hK11 _ _ ?_
        replace H := H.keep [1, 2, 6, 7, 8] rfl
        refine one_list ?_
        refine list_does H rfl (does_move rfl) ?_; clear H a; intro a H
        refine list_does H rfl (by first | exact does_loadIn agg_42 sz_42 rfl S hl (by omega) (by omega) | exact does_loadIn agg_42 sz_42 rfl S hr (by omega) (by omega) | exact does_loadBox agg_42 sz_42 rfl S (i := 0) rfl rfl | exact does_loadBox agg_42 sz_42 rfl S (i := 1) rfl rfl | exact does_loadBox agg_42 sz_42 rfl S (i := 2) rfl rfl) ?_; clear H a; intro a H
        refine list_build' H rfl S sl_37 sz_42 ze_42 rfl rfl rfl rfl rfl rfl rfl rfl rfl ?_; clear H a S; intro A1 _ a hA1 S H
        refine list_append H rfl S sl_37 sz_42 ze_42 by_42 rfl rfl (i := 2) rfl rfl rfl (ownM.inS S (i := 0) rfl) (one_vs (two rfl rfl)) (by omega) (by omega) ?_; clear H a S; intro A2 c2 _ a S H
        replace S := S.recell (i := 2) rfl (cell' := fcell (fun q => fwd (⟨rates, pwn, ptn, pag⟩ : Part) l (q + 1))) (capp_one (two rfl rfl))
        refine list_does H rfl (does_assign rfl) ?_; clear H a; intro a H
        refine hK9 _ _ ?_
        replace H := H.keep [1, 2, 6, 7, 8] rfl
        refine one_still ?_
        refine still_does H rfl (does_move rfl) ?_; clear H a; intro a H
        refine still_does H rfl (does_add rfl rfl (by unfold i64ok; omega)) ?_; clear H a; intro a H
        refine still_does H rfl (does_assign rfl) ?_; clear H a; intro a H
        refine wpStill_nil ?_
        exact hK6 (g1 - 1) (k + 1, _, _) a _ (by omega) (⟨by omega, by omega, fun q hq => by
          by_cases h : q = k
          · subst h; exact (fits_iff hok (by omega) hp.2.2).2 hc2
          · exact hp.2.2 q (by omega)⟩) (S.sel [1, 2, 3] rfl rfl) (H.keep [6, 8, 1, 2, 7] rfl)
    · try simp only [Bool.or_eq_true, Bool.and_eq_true, Bool.not_eq_true', Bool.or_eq_false_iff, Bool.and_eq_false_iff, Bool.not_eq_false', decide_eq_true_eq, decide_eq_false_iff_not, Int.not_lt, Int.not_le] at hc1
      refine wp_exit ?_
      refine hK4 _ _ ?_
      replace H := H.keep [6] rfl
      refine seq_still (fun K16 hK16 => ?_)
      refine still_does H rfl (does_move rfl) ?_; clear H a; intro a H
      refine still_does H rfl (does_assign rfl) ?_; clear H a; intro a H
      refine still_does H rfl (does_assign rfl) ?_; clear H a; intro a H
      refine wpStill_nil (hK16 _ ?_)
      clear hK16 K16
      refine wp_ret ?_
      refine ret2 (fn := Try.f75) rfl H rfl rfl ?_
      have hk9 : k = l.length := by omega
      subst hk9
      exact .inl ⟨atN_eq ⟨Nat.le_refl _, hp.2.2, fun h => absurd h (Nat.lt_irrefl _)⟩, A', c', rfl, (S.sel [1] rfl rfl)⟩

set_option maxRecDepth 100000 in
set_option maxHeartbeats 4000000 in
theorem ref_wear (rates : List (Int × Int)) (pwn ptn pag : Int) (RA : Option Addr) (rcp : Nat) (l : List Use) (A : Option Addr) (cp : Nat) (w : World) (hr : InS w noF 2 RA rates.length (scell rates)) (hrn : rates.length ≤ 9223372036854775807) (hl : InS w noF 6 A l.length (ucell l)) (hn : l.length ≤ 9223372036854775807) (hok : PartOk (⟨rates, pwn, ptn, pag⟩ : Part) l) (h0 : checkP (⟨rates, pwn, ptn, pag⟩ : Part) l = 0) :
    Calls Try.prog 73 [.agg [.slice RA rates.length rcp, .int .i64 pwn, .int .i64 ptn, .int .i64 pag].toArray, .slice A l.length cp].toArray w (Ret (WearR w (⟨rates, pwn, ptn, pag⟩ : Part) l)) := by
  refine enter Try.func73 rfl Try.ntmps73 rfl (fun a H => ?_)
  have S := St.start w
  refine seq_list (fun K1 hK1 => ?_)
  refine list_box H rfl S rfl rfl ?_; clear H a S; intro b2 _ a hb2 hbw2 S H
  refine list_does H rfl (does_assign rfl) ?_; clear H a; intro a H
  refine list_does H rfl (does_assign rfl) ?_; clear H a; intro a H
  refine hK1 _ _ ?_
  clear hK1 K1
  rcases (show atN (⟨rates, pwn, ptn, pag⟩ : Part) l = l.length ∨ atN (⟨rates, pwn, ptn, pag⟩ : Part) l < l.length from by have := (atN_is (⟨rates, pwn, ptn, pag⟩ : Part) l).le; omega) with hA | hA
  · skip
    replace H := H.keep [1, 2] rfl
    refine seq_list (fun K2 hK2 => ?_)
    refine list_does H rfl (by first | exact does_loadIn agg_62 sz_62 rfl S hl (by omega) (by omega) | exact does_loadIn agg_62 sz_62 rfl S hr (by omega) (by omega) | exact does_loadBox agg_62 sz_62 rfl S (i := 0) rfl rfl) ?_; clear H a; intro a H
    refine list_does H rfl (does_move rfl) ?_; clear H a; intro a H
    refine list_call H rfl rfl Try.func75 rfl rfl (ret_imp (ref_forward rates pwn ptn pag RA rcp l A cp _ (hr.now S) hrn (hl.now S) hn hok) (fun _ _ => fwdR_yes hA)) ?_; clear H a
    rintro _ _ a ⟨A', c', rfl, S2⟩ H
    replace S := S.call S2; clear S2
    refine list_does H rfl (does_move rfl) ?_; clear H a; intro a H
    refine list_does H rfl (does_extract rfl rfl) ?_; clear H a; intro a H
    refine list_does H rfl (does_extract rfl rfl) ?_; clear H a; intro a H
    refine list_does H rfl (does_assign rfl) ?_; clear H a; intro a H
    refine list_does H rfl (does_assign rfl) ?_; clear H a; intro a H
    refine hK2 _ _ ?_
    clear hK2 K2
    refine wp_seq_k (fun K3 hK3 => ?_)
    replace H := H.keep [1, 2, 6, 7] rfl
    refine seq_still (fun K4 hK4 => ?_)
    refine still_does H rfl (does_move rfl) ?_; clear H a; intro a H
    refine still_does H rfl (does_geq rfl rfl) ?_; clear H a; intro a H
    refine wpStill_nil (hK4 _ ?_)
    clear hK4 K4
    refine cond_ H rfl (fun hc1 => ?_) (fun hc1 => ?_)
    · skip
      simp at hc1
    · skip
      refine wp_skip ?_
      refine hK3 _ _ ?_
      refine wp_seq_k (fun K5 hK5 => ?_)
      replace H := H.keep [1, 2, 6] rfl
      refine seq_still (fun K6 hK6 => ?_)
      refine still_does H rfl (does_move rfl) ?_; clear H a; intro a H
      refine still_does H rfl (does_len sl_63 rfl) ?_; clear H a; intro a H
      refine still_does H rfl (does_sub rfl rfl (by unfold i64ok; omega)) ?_; clear H a; intro a H
      refine still_does H rfl (does_assign rfl) ?_; clear H a; intro a H
      refine wpStill_nil (hK6 _ ?_)
      clear hK6 K6
      refine wp_block ?_
      have hll := hok.len
      replace S := S.recell (i := 0) rfl (cell' := fcell (fun q => if (l.length : Int) - 2 < ((q : Nat) : Int) then wearAt (⟨rates, pwn, ptn, pag⟩ : Part) l q else fwd (⟨rates, pwn, ptn, pag⟩ : Part) l (q + 1))) (fun q j hq hj => by
        unfold fcell; congr 1; (try dsimp only); by_cases h1 : (l.length : Int) - 2 < ((q : Nat) : Int)
        · rw [if_pos h1, wearAt_last (show q + 1 = l.length by omega), show q + 1 = l.length by omega]
        · rw [if_neg h1])
      refine loop_st (X := Int) (R0 := _) [1, 2, 6] H rfl (fun i => [(8, .int .i64 i)]) (fun i => [ownM 42 2 A' l.length c' (fcell (fun q => if i < ((q : Nat) : Int) then wearAt (⟨rates, pwn, ptn, pag⟩ : Part) l q else fwd (⟨rates, pwn, ptn, pag⟩ : Part) l (q + 1)))]) (fun g i => -2 ≤ i ∧ i ≤ (l.length : Int) - 2 ∧ g = (i + 2).toNat) (l.length) ((l.length : Int) - 2) ?_ (S.sel [0, 1] rfl rfl) (H.keep [8, 1, 2, 6] rfl) ?_
      · exact ⟨by omega, by omega, by omega⟩
      · intro g1 x1 a w1 hp S H K7 hK7
        obtain ⟨i, rfl⟩ : ∃ y, y = x1 := ⟨_, rfl⟩
        skip
        refine wp_seq_k (fun K8 hK8 => ?_)
        replace H := H.keep [1, 2, 6, 8] rfl
        refine seq_still (fun K9 hK9 => ?_)
        refine still_does H rfl (does_move rfl) ?_; clear H a; intro a H
        refine still_does H rfl (does_geq rfl rfl) ?_; clear H a; intro a H
        refine wpStill_nil (hK9 _ ?_)
        clear hK9 K9
        refine cond_ H rfl (fun hc2 => ?_) (fun hc2 => ?_)
        · try simp only [Bool.or_eq_true, Bool.and_eq_true, Bool.not_eq_true', Bool.or_eq_false_iff, Bool.and_eq_false_iff, Bool.not_eq_false', decide_eq_true_eq, decide_eq_false_iff_not, Int.not_lt, Int.not_le] at hc2
          refine wp_skip ?_
          refine hK8 _ _ ?_
          refine wp_seq_k (fun K10 hK10 => ?_)
          refine wp_block ?_
          have hu := hok.use (k := (i + 1).toNat) (by omega); unfold useOk at hu; simp only [decide_eq_true_eq] at hu
          have hgb := grown_bd hok (k := (i + 1).toNat) (by omega)
          have hcls : 0 ≤ (l.getD (i + 1).toNat Use.zero).cls ∧ (l.getD (i + 1).toNat Use.zero).cls < rates.length := by
            have : ((⟨rates, pwn, ptn, pag⟩ : Part).rates.length : Int) = rates.length := rfl
            omega
          have hll := hok.len
          have hnn : 0 ≤ i + 1 := by omega
          have hbw := wearAt_bd hok (k := (i + 1).toNat) (by omega)
          have ht8 : (i + 1).toNat = i.toNat + 1 := by omega
          have hgr : grownS (⟨rates, pwn, ptn, pag⟩ : Part) (l.getD (i + 1).toNat Use.zero) = ((l.getD (i + 1).toNat Use.zero).turns * (rates.getD (l.getD (i + 1).toNat Use.zero).cls.toNat (0, 0)).1, (l.getD (i + 1).toNat Use.zero).turns * (rates.getD (l.getD (i + 1).toNat Use.zero).cls.toNat (0, 0)).2) := rfl
          rw [hgr] at hgb
          replace H := H.keep [1, 2, 6, 8] rfl
          replace S := S.drew
          refine seq_wq [(0, true), (1, true), (2, true), (3, true), (4, true), (5, true), (6, true), (7, true), (8, true), (9, true), (10, false), (11, false)] (by kernel_rfl) (by kernel_rfl) (S.sel [0, 1] rfl rfl) (fun K11 hK11 => ?_)
          refine wq_does H rfl rfl (fun _ S => by first | exact does_field_pt fo_62_0 rfl | exact does_field fo_62_0 rfl) ?_; clear H a; intro a H
          refine wq_does H rfl rfl (fun _ S => does_load one_37 rfl (by first | exact hl.rd S (by omega) (by omega) | exact boxM.rd S (i := 0) rfl rfl | exact boxM.rd S (i := 1) rfl rfl)) ?_; clear H a; intro a H
          refine wq_does H rfl rfl (fun _ S => does_move rfl) ?_; clear H a; intro a H
          refine wq_does H rfl rfl (fun _ S => does_move rfl) ?_; clear H a; intro a H
          refine wq_does H rfl rfl (fun _ S => does_add rfl rfl (by unfold i64ok; omega)) ?_; clear H a; intro a H
          refine wq_does H rfl rfl (fun _ S => by first | exact does_indexN sl_63 sz_70 rfl rfl (by first | exact hl.adr (by omega) | exact hr.adr (by omega) | exact ownM.adr S (i := 0) rfl (by omega)) (by first | omega | omega) | exact does_index sl_63 sz_70 rfl rfl (by first | exact hl.adr (by omega) | exact hr.adr (by omega) | exact ownM.adr S (i := 0) rfl (by omega)) (by omega) (by first | omega | omega)) ?_; clear H a; intro a H
          refine wq_does H rfl rfl (fun _ S => by first | exact does_field_pt fo_70_2 rfl | exact does_field fo_70_2 rfl) ?_; clear H a; intro a H
          refine wq_does H rfl rfl (fun _ S => does_load one_3 rfl (by first | exact hl.rd S (by omega) (by omega) | exact boxM.rd S (i := 0) rfl rfl | exact boxM.rd S (i := 1) rfl rfl)) ?_; clear H a; intro a H
          refine wq_does H rfl rfl (fun _ S => by first | exact does_indexN sl_37 sz_42 rfl rfl (by first | exact hl.adr (by omega) | exact hr.adr (by omega) | exact ownM.adr S (i := 0) rfl (by omega)) (by first | omega | omega) | exact does_index sl_37 sz_42 rfl rfl (by first | exact hl.adr (by omega) | exact hr.adr (by omega) | exact ownM.adr S (i := 0) rfl (by omega)) (by omega) (by first | omega | omega)) ?_; clear H a; intro a H
          refine wq_does H rfl rfl (fun _ S => by first | exact does_loadIn agg_42 sz_42 rfl S hl (by omega) (by omega) | exact does_loadIn agg_42 sz_42 rfl S hr (by omega) (by omega) | exact does_loadBox agg_42 sz_42 rfl S (i := 0) rfl rfl | exact does_loadBox agg_42 sz_42 rfl S (i := 1) rfl rfl) ?_; clear H a; intro a H
          refine wq_eff rfl ?_
          refine list_alloc H rfl S ze_42 ?_; clear H a S; intro b9 _ a hb9 hbw9 S H
          refine wpList_nil (And.intro (S.sel [1, 2] rfl rfl) ?_)
          refine wq_eff rfl ?_
          first | (refine list_store H S (i := 0) rfl rfl rfl rfl sz_42 rfl rfl ?_) | (refine list_store H S (i := 1) rfl rfl rfl rfl sz_42 rfl rfl ?_) | (refine list_store H S (i := 2) rfl rfl rfl rfl sz_42 rfl rfl ?_) | (refine list_store_own H S (i := 0) rfl rfl rfl (by omega) (by omega) sz_42 rfl ?_) | (refine list_store_own H S (i := 1) rfl rfl rfl (by omega) (by omega) sz_42 rfl ?_) | (refine list_store_own H S (i := 2) rfl rfl rfl (by omega) (by omega) sz_42 rfl ?_)
          clear H a S; intro _ a S H
          refine wpList_nil (And.intro (S.sel [1, 2] rfl rfl) ?_)
          refine wq_nil ?_
          refine hK11 _ _ ?_
          clear hK11 K11
          replace H := H.keep [1, 2, 6, 8, 9] rfl
          refine seq_tail 26 (by kernel_rfl) (by kernel_rfl) (fun K12 hK12 => ?_)
          replace S := S.drew
          refine still_does H rfl (does_move rfl) ?_; clear H a; intro a H
          refine still_does H rfl (does_move rfl) ?_; clear H a; intro a H
          refine still_does H rfl (does_move rfl) ?_; clear H a; intro a H
          refine still_does H rfl (does_move rfl) ?_; clear H a; intro a H
          refine still_does H rfl (by first | exact does_indexN sl_37 sz_42 rfl rfl (by first | exact hl.adr (by omega) | exact hr.adr (by omega) | exact ownM.adr S (i := 1) rfl (by omega)) (by first | omega | omega) | exact does_index sl_37 sz_42 rfl rfl (by first | exact hl.adr (by omega) | exact hr.adr (by omega) | exact ownM.adr S (i := 1) rfl (by omega)) (by omega) (by first | omega | omega)) ?_; clear H a; intro a H
          refine still_does H rfl (by first | exact does_field_pt fo_42_0 rfl | exact does_field fo_42_0 rfl) ?_; clear H a; intro a H
          refine still_does H rfl (does_load one_3 rfl (by have h9 := ownM.rd S (i := 1) (k := i.toNat) (j := 0) rfl (by omega) (by omega); unfold fcell at h9; dsimp only at h9; rw [if_neg (by omega)] at h9; exact h9)) ?_; clear H a; intro a H
          refine still_does H rfl (does_move rfl) ?_; clear H a; intro a H
          refine still_does H rfl (does_move rfl) ?_; clear H a; intro a H
          refine still_does H rfl (does_add rfl rfl (by unfold i64ok; omega)) ?_; clear H a; intro a H
          refine still_does H rfl (by first | exact does_indexN sl_37 sz_42 rfl rfl (by first | exact hl.adr (by omega) | exact hr.adr (by omega) | exact ownM.adr S (i := 1) rfl (by omega)) (by first | omega | omega) | exact does_index sl_37 sz_42 rfl rfl (by first | exact hl.adr (by omega) | exact hr.adr (by omega) | exact ownM.adr S (i := 1) rfl (by omega)) (by omega) (by first | omega | omega)) ?_; clear H a; intro a H
          refine still_does H rfl (by first | exact does_field_pt fo_42_0 rfl | exact does_field fo_42_0 rfl) ?_; clear H a; intro a H
          refine still_does H rfl (does_load one_3 rfl (by have h9 := ownM.rd S (i := 1) (k := (i + 1).toNat) (j := 0) rfl (by omega) (by omega); unfold fcell at h9; dsimp only at h9; rw [if_pos (by omega)] at h9; exact h9)) ?_; clear H a; intro a H
          refine still_does H rfl (does_move rfl) ?_; clear H a; intro a H
          refine still_does H rfl (does_move rfl) ?_; clear H a; intro a H
          refine still_does H rfl (does_add rfl rfl (by unfold i64ok; omega)) ?_; clear H a; intro a H
          refine still_does H rfl (by first | exact does_indexN sl_63 sz_70 rfl rfl (by first | exact hl.adr (by omega) | exact hr.adr (by omega) | exact ownM.adr S (i := 1) rfl (by omega)) (by first | omega | omega) | exact does_index sl_63 sz_70 rfl rfl (by first | exact hl.adr (by omega) | exact hr.adr (by omega) | exact ownM.adr S (i := 1) rfl (by omega)) (by omega) (by first | omega | omega)) ?_; clear H a; intro a H
          refine still_does H rfl (by first | exact does_field_pt fo_70_1 rfl | exact does_field fo_70_1 rfl) ?_; clear H a; intro a H
          refine still_does H rfl (does_load one_3 rfl (by first | exact hl.rd S (by omega) (by omega) | exact boxM.rd S (i := 0) rfl rfl | exact boxM.rd S (i := 1) rfl rfl | exact boxM.rd S (i := 2) rfl rfl)) ?_; clear H a; intro a H
          refine still_does H rfl (by first | exact does_field_pt fo_42_1 rfl | exact does_field fo_42_1 rfl) ?_; clear H a; intro a H
          refine still_does H rfl (does_load one_3 rfl (by first | exact hl.rd S (by omega) (by omega) | exact boxM.rd S (i := 0) rfl rfl | exact boxM.rd S (i := 1) rfl rfl | exact boxM.rd S (i := 2) rfl rfl)) ?_; clear H a; intro a H
          refine still_does H rfl (does_mul rfl rfl (by unfold i64ok; omega)) ?_; clear H a; intro a H
          refine still_does H rfl (does_sub rfl rfl (by unfold i64ok; omega)) ?_; clear H a; intro a H
          refine still_does H rfl (does_max rfl rfl) ?_; clear H a; intro a H
          refine still_does H rfl (by first | exact does_indexN sl_37 sz_42 rfl rfl (by first | exact hl.adr (by omega) | exact hr.adr (by omega) | exact ownM.adr S (i := 1) rfl (by omega)) (by first | omega | omega) | exact does_index sl_37 sz_42 rfl rfl (by first | exact hl.adr (by omega) | exact hr.adr (by omega) | exact ownM.adr S (i := 1) rfl (by omega)) (by omega) (by first | omega | omega)) ?_; clear H a; intro a H
          refine still_does H rfl (by first | exact does_field_pt fo_42_0 rfl | exact does_field fo_42_0 rfl) ?_; clear H a; intro a H
          refine wpStill_nil ?_
          first | (refine list_store_own H S (i := 1) (j := 0) rfl rfl rfl (by omega) (by omega) sz_3 rfl ?_)
          clear H a S; intro _ a S H
          have S := S.recell (i := 1) rfl (cell' := fcell (fun q => if q = i.toNat then ((wearAt (⟨rates, pwn, ptn, pag⟩ : Part) l q).1, (fwd (⟨rates, pwn, ptn, pag⟩ : Part) l (q + 1)).2) else if i < ((q : Nat) : Int) then wearAt (⟨rates, pwn, ptn, pag⟩ : Part) l q else fwd (⟨rates, pwn, ptn, pag⟩ : Part) l (q + 1))) (fun q j hq hj => by
            have e9 := wearAt_step (p := (⟨rates, pwn, ptn, pag⟩ : Part)) (l := l) (k := i.toNat) (by omega)
            unfold cput fcell; by_cases h1 : q = i.toNat
            · subst h1; rcases (show j = 0 ∨ j = 1 by omega) with rfl | rfl
              · rw [if_pos ⟨rfl, rfl⟩]; dsimp only; rw [if_pos rfl]; show Value.int .i64 _ = Value.int .i64 (wearAt (⟨rates, pwn, ptn, pag⟩ : Part) l i.toNat).1; rw [ht8, e9]; rfl
              · rw [if_neg (by omega)]; dsimp only; rw [if_pos rfl, if_neg (by omega)]; rfl
            · rw [if_neg (by omega)]; dsimp only; rw [if_neg h1])
          refine hK12 _ _ ?_
          clear hK12 K12
          replace H := H.keep [1, 2, 6, 8, 9] rfl
          refine one_tail 26 (by kernel_rfl) (by kernel_rfl) ?_
          replace S := S.drew
          refine still_does H rfl (does_move rfl) ?_; clear H a; intro a H
          refine still_does H rfl (does_move rfl) ?_; clear H a; intro a H
          refine still_does H rfl (does_move rfl) ?_; clear H a; intro a H
          refine still_does H rfl (does_move rfl) ?_; clear H a; intro a H
          refine still_does H rfl (by first | exact does_indexN sl_37 sz_42 rfl rfl (by first | exact hl.adr (by omega) | exact hr.adr (by omega) | exact ownM.adr S (i := 1) rfl (by omega)) (by first | omega | omega) | exact does_index sl_37 sz_42 rfl rfl (by first | exact hl.adr (by omega) | exact hr.adr (by omega) | exact ownM.adr S (i := 1) rfl (by omega)) (by omega) (by first | omega | omega)) ?_; clear H a; intro a H
          refine still_does H rfl (by first | exact does_field_pt fo_42_1 rfl | exact does_field fo_42_1 rfl) ?_; clear H a; intro a H
          refine still_does H rfl (does_load one_3 rfl (by have h9 := ownM.rd S (i := 1) (k := i.toNat) (j := 1) rfl (by omega) (by omega); unfold fcell at h9; dsimp only at h9; rw [if_pos rfl] at h9; exact h9)) ?_; clear H a; intro a H
          refine still_does H rfl (does_move rfl) ?_; clear H a; intro a H
          refine still_does H rfl (does_move rfl) ?_; clear H a; intro a H
          refine still_does H rfl (does_add rfl rfl (by unfold i64ok; omega)) ?_; clear H a; intro a H
          refine still_does H rfl (by first | exact does_indexN sl_37 sz_42 rfl rfl (by first | exact hl.adr (by omega) | exact hr.adr (by omega) | exact ownM.adr S (i := 1) rfl (by omega)) (by first | omega | omega) | exact does_index sl_37 sz_42 rfl rfl (by first | exact hl.adr (by omega) | exact hr.adr (by omega) | exact ownM.adr S (i := 1) rfl (by omega)) (by omega) (by first | omega | omega)) ?_; clear H a; intro a H
          refine still_does H rfl (by first | exact does_field_pt fo_42_1 rfl | exact does_field fo_42_1 rfl) ?_; clear H a; intro a H
          refine still_does H rfl (does_load one_3 rfl (by have h9 := ownM.rd S (i := 1) (k := (i + 1).toNat) (j := 1) rfl (by omega) (by omega); unfold fcell at h9; dsimp only at h9; rw [if_neg (by omega), if_pos (by omega)] at h9; exact h9)) ?_; clear H a; intro a H
          refine still_does H rfl (does_move rfl) ?_; clear H a; intro a H
          refine still_does H rfl (does_move rfl) ?_; clear H a; intro a H
          refine still_does H rfl (does_add rfl rfl (by unfold i64ok; omega)) ?_; clear H a; intro a H
          refine still_does H rfl (by first | exact does_indexN sl_63 sz_70 rfl rfl (by first | exact hl.adr (by omega) | exact hr.adr (by omega) | exact ownM.adr S (i := 1) rfl (by omega)) (by first | omega | omega) | exact does_index sl_63 sz_70 rfl rfl (by first | exact hl.adr (by omega) | exact hr.adr (by omega) | exact ownM.adr S (i := 1) rfl (by omega)) (by omega) (by first | omega | omega)) ?_; clear H a; intro a H
          refine still_does H rfl (by first | exact does_field_pt fo_70_1 rfl | exact does_field fo_70_1 rfl) ?_; clear H a; intro a H
          refine still_does H rfl (does_load one_3 rfl (by first | exact hl.rd S (by omega) (by omega) | exact boxM.rd S (i := 0) rfl rfl | exact boxM.rd S (i := 1) rfl rfl | exact boxM.rd S (i := 2) rfl rfl)) ?_; clear H a; intro a H
          refine still_does H rfl (by first | exact does_field_pt fo_42_0 rfl | exact does_field fo_42_0 rfl) ?_; clear H a; intro a H
          refine still_does H rfl (does_load one_3 rfl (by first | exact hl.rd S (by omega) (by omega) | exact boxM.rd S (i := 0) rfl rfl | exact boxM.rd S (i := 1) rfl rfl | exact boxM.rd S (i := 2) rfl rfl)) ?_; clear H a; intro a H
          refine still_does H rfl (does_mul rfl rfl (by unfold i64ok; omega)) ?_; clear H a; intro a H
          refine still_does H rfl (does_sub rfl rfl (by unfold i64ok; omega)) ?_; clear H a; intro a H
          refine still_does H rfl (does_min rfl rfl) ?_; clear H a; intro a H
          refine still_does H rfl (by first | exact does_indexN sl_37 sz_42 rfl rfl (by first | exact hl.adr (by omega) | exact hr.adr (by omega) | exact ownM.adr S (i := 1) rfl (by omega)) (by first | omega | omega) | exact does_index sl_37 sz_42 rfl rfl (by first | exact hl.adr (by omega) | exact hr.adr (by omega) | exact ownM.adr S (i := 1) rfl (by omega)) (by omega) (by first | omega | omega)) ?_; clear H a; intro a H
          refine still_does H rfl (by first | exact does_field_pt fo_42_1 rfl | exact does_field fo_42_1 rfl) ?_; clear H a; intro a H
          refine wpStill_nil ?_
          first | (refine list_store_own H S (i := 1) (j := 1) rfl rfl rfl (by omega) (by omega) sz_3 rfl ?_)
          clear H a S; intro _ a S H
          have S := S.recell (i := 1) rfl (cell' := fcell (fun q => if i - 1 < ((q : Nat) : Int) then wearAt (⟨rates, pwn, ptn, pag⟩ : Part) l q else fwd (⟨rates, pwn, ptn, pag⟩ : Part) l (q + 1))) (fun q j hq hj => by
            have e9 := wearAt_step (p := (⟨rates, pwn, ptn, pag⟩ : Part)) (l := l) (k := i.toNat) (by omega)
            unfold cput fcell; by_cases h1 : q = i.toNat
            · subst h1; rcases (show j = 0 ∨ j = 1 by omega) with rfl | rfl
              · rw [if_neg (by omega)]; dsimp only; rw [if_pos rfl, if_pos (by omega)]; rfl
              · rw [if_pos ⟨rfl, rfl⟩]; dsimp only; rw [if_pos (by omega)]; show Value.int .i64 _ = Value.int .i64 (wearAt (⟨rates, pwn, ptn, pag⟩ : Part) l i.toNat).2; rw [ht8, e9]; rfl
            · rw [if_neg (by omega)]; dsimp only; rw [if_neg h1]; by_cases h2 : i < (q : Int)
              · rw [if_pos h2, if_pos (by omega)]
              · rw [if_neg h2, if_neg (by omega)])
          refine hK10 _ _ ?_
          replace H := H.keep [1, 2, 6, 8] rfl
          refine one_still ?_
          refine still_does H rfl (does_move rfl) ?_; clear H a; intro a H
          refine still_does H rfl (does_sub rfl rfl (by unfold i64ok; omega)) ?_; clear H a; intro a H
          refine still_does H rfl (does_assign rfl) ?_; clear H a; intro a H
          refine wpStill_nil ?_
          exact hK7 (g1 - 1) (i - 1) a _ (by omega) (⟨by omega, by omega, by omega⟩) (S.sel [1, 2] rfl rfl) (H.keep [8, 1, 2, 6] rfl)
        · try simp only [Bool.or_eq_true, Bool.and_eq_true, Bool.not_eq_true', Bool.or_eq_false_iff, Bool.and_eq_false_iff, Bool.not_eq_false', decide_eq_true_eq, decide_eq_false_iff_not, Int.not_lt, Int.not_le] at hc2
          refine wp_exit ?_
          refine hK5 _ _ ?_
          replace H := H.keep [6] rfl
          refine seq_still (fun K15 hK15 => ?_)
          refine still_does H rfl (does_move rfl) ?_; clear H a; intro a H
          refine still_does H rfl (does_assign rfl) ?_; clear H a; intro a H
          refine still_does H rfl (does_assign rfl) ?_; clear H a; intro a H
          refine wpStill_nil (hK15 _ ?_)
          clear hK15 K15
          refine wp_ret ?_
          refine ret2 (fn := Try.f73) rfl H rfl rfl ?_
          refine .inl ⟨wearE_ok h0 (atN_all.2 hA), A', c', rfl, ?_⟩
          replace S := S.recell (i := 0) rfl (cell' := fcell (wearAt (⟨rates, pwn, ptn, pag⟩ : Part) l)) (fun q j hq hj => by unfold fcell; congr 1; exact if_pos (by omega))
          exact (S.sel [0] rfl rfl)
  · skip
    replace H := H.keep [1, 2] rfl
    refine seq_list (fun K16 hK16 => ?_)
    refine list_does H rfl (by first | exact does_loadIn agg_62 sz_62 rfl S hl (by omega) (by omega) | exact does_loadIn agg_62 sz_62 rfl S hr (by omega) (by omega) | exact does_loadBox agg_62 sz_62 rfl S (i := 0) rfl rfl) ?_; clear H a; intro a H
    refine list_does H rfl (does_move rfl) ?_; clear H a; intro a H
    refine list_call H rfl rfl Try.func75 rfl rfl (ret_imp (ref_forward rates pwn ptn pag RA rcp l A cp _ (hr.now S) hrn (hl.now S) hn hok) (fun _ _ => fwdR_no hA)) ?_; clear H a
    rintro _ _ a ⟨rfl, S2⟩ H
    replace S := S.call S2; clear S2
    refine list_does H rfl (does_move rfl) ?_; clear H a; intro a H
    refine list_does H rfl (does_extract rfl rfl) ?_; clear H a; intro a H
    refine list_does H rfl (does_extract rfl rfl) ?_; clear H a; intro a H
    refine list_does H rfl (does_assign rfl) ?_; clear H a; intro a H
    refine list_does H rfl (does_assign rfl) ?_; clear H a; intro a H
    refine hK16 _ _ ?_
    clear hK16 K16
    refine wp_seq_k (fun K17 hK17 => ?_)
    replace H := H.keep [1, 2, 6, 7] rfl
    refine seq_still (fun K18 hK18 => ?_)
    refine still_does H rfl (does_move rfl) ?_; clear H a; intro a H
    refine still_does H rfl (does_geq rfl rfl) ?_; clear H a; intro a H
    refine wpStill_nil (hK18 _ ?_)
    clear hK18 K18
    refine cond_ H rfl (fun hc3 => ?_) (fun hc3 => ?_)
    · try simp only [Bool.or_eq_true, Bool.and_eq_true, Bool.not_eq_true', Bool.or_eq_false_iff, Bool.and_eq_false_iff, Bool.not_eq_false', decide_eq_true_eq, decide_eq_false_iff_not, Int.not_lt, Int.not_le] at hc3
      replace H := H.keep [] rfl
      refine seq_still (fun K19 hK19 => ?_)
      refine still_does H rfl (does_assign rfl) ?_; clear H a; intro a H
      refine still_does H rfl (does_assign rfl) ?_; clear H a; intro a H
      refine wpStill_nil (hK19 _ ?_)
      clear hK19 K19
      refine wp_ret ?_
      refine ret2 (fn := Try.f73) rfl H rfl rfl ?_
      have e9 := wearE_none h0 (fun h => by have := atN_eq h; omega)
      exact .inr ⟨by omega, by rw [e9], (S.sel [] rfl rfl)⟩
    · try simp only [Bool.or_eq_true, Bool.and_eq_true, Bool.not_eq_true', Bool.or_eq_false_iff, Bool.and_eq_false_iff, Bool.not_eq_false', decide_eq_true_eq, decide_eq_false_iff_not, Int.not_lt, Int.not_le] at hc3
      all_goals (exfalso; omega)

end Go.Proofs.Ytlejjfhgfajoiaa
