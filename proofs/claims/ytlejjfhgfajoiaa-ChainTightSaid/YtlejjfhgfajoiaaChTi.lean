/- ChTi. Printed by gen.py. -/
import Derived.Test.YtlejjfhgfajoiaaChLv
import Derived.Test.YtlejjfhgfajoiaaTig
import Derived.Test.YtlejjfhgfajoiaaOwn
namespace Go.Proofs.Ytlejjfhgfajoiaa
open Go.RowKit
set_option linter.unusedVariables false
set_option linter.unusedSimpArgs false


theorem wear_uni {w : World} {p : Part} {l : List Use} {v : Value} {w' : World} (h : WearR w p l v w') : ∃ A' c' n f, v = .tuple #[.slice A' n c', .int .i64 (wearE p l)] ∧ St w noF [ownM 42 2 A' n c' (fcell f)] w' ∧ (wearE p l = 0 → n = l.length ∧ ∀ k, k < n → f k = wearAt p l k) := by
  rcases h with ⟨h0, A', c', rfl, S⟩ | ⟨h0, rfl, S⟩
  · exact ⟨A', c', _, _, by rw [h0], S, fun _ => ⟨rfl, fun _ _ => rfl⟩⟩
  · exact ⟨none, 0, 0, wearAt p l, rfl, S.newNil 42 2 _, fun h => absurd h h0⟩
theorem at_len {P : Program} {f : Nat} {x : Value} {A : Option Addr} {c m n : Nat} {w : World} {R : Ending → World → Prop} (e : m = n) (h : Calls P f [x, .slice A m c].toArray w R) : Calls P f [x, .slice A n c].toArray w R := e ▸ h
theorem ucell_app1 {l : List Use} {u : Use} {vs : List Value} (h : ∀ j, j < 6 → vs.getD j undef = u.cell j) : ∀ q j, q < l.length + 1 → j < 6 → capp l.length (ucell l) (fun k' j => ([vs].getD k' []).getD j undef) q j = ucell (l ++ [u]) q j := by
  intro q j hq hj
  unfold capp ucell
  by_cases h1 : q < l.length
  · rw [if_pos h1, List.getD_eq_getElem?_getD, List.getD_eq_getElem?_getD, List.getElem?_append_left h1]
  · rw [if_neg h1]
    have e : q = l.length := by omega
    subst e
    rw [Nat.sub_self, List.getD_eq_getElem?_getD (l := l ++ [u]), List.getElem?_append_right (Nat.le_refl _), Nat.sub_self]
    exact h j hj
theorem meas_cells {l : List Use} {i : Nat} {lo hi : Int} (h : i < l.length) : ∀ q j, q < l.length → j < 6 → cputs (cput (ucell l) i 3 (.bool true)) i 4 [.int .i64 lo, .int .i64 hi] q j = ucell (measL l i lo hi) q j := by
  intro q j hq hj
  unfold cputs cput ucell
  by_cases e : q = i
  · subst e
    rw [measL_at h]
    have : j = 0 ∨ j = 1 ∨ j = 2 ∨ j = 3 ∨ j = 4 ∨ j = 5 := by omega
    rcases this with rfl | rfl | rfl | rfl | rfl | rfl <;> simp [measU, Use.cell]
  · rw [measL_ne e, if_neg (fun h => e h.1), if_neg (fun h => e h.1)]


set_option maxRecDepth 100000 in
set_option maxHeartbeats 4000000 in
theorem law_ChainTight (rates : List (Int × Int)) (RA : Option Addr) (rcp : Nat) (pwn ptn pag : Int) (l : List Use) (A : Option Addr) (cp : Nat) (at_ slo shi cls day : Int) (w : World) (hr : InS w noF 2 RA rates.length (scell rates)) (hrn : rates.length * 16 ≤ 140737488351232) (hl : InS w noF 6 A l.length (ucell l)) (hn : l.length * 48 ≤ 140737488351232) :
    Calls Try.prog 10 [.agg [.slice RA rates.length rcp, .int .i64 pwn, .int .i64 ptn, .int .i64 pag].toArray, .slice A l.length cp, .agg [.int .i64 at_, .int .i64 slo, .int .i64 shi, .int .i64 cls, .int .i64 day].toArray].toArray w (Ret (fun v w' => v = .bool true ∧ St w noF [] w')) := by
  have hrn1 : rates.length ≤ 9223372036854775807 := by omega
  have hn1 : l.length ≤ 9223372036854775807 := by omega
  have hmx : maxLen = 9223372036854775807 := rfl
  refine enter Try.func10 rfl Try.ntmps10 rfl (fun a H => ?_)
  have S := St.start w
  refine seq_list (fun K1 hK1 => ?_)
  refine list_box H rfl S rfl rfl ?_; clear H a S; intro b3 _ a hb3 hbw3 S H
  refine list_box H rfl S rfl rfl ?_; clear H a S; intro b5 _ a hb5 hbw5 S H
  refine list_does H rfl (does_assign rfl) ?_; clear H a; intro a H
  refine hK1 _ _ ?_
  clear hK1 K1
  refine wp_seq_k (fun K2 hK2 => ?_)
  replace H := H.keep [1, 3, 5] rfl
  refine seq_list (fun K3 hK3 => ?_)
  refine list_does H rfl (by first | exact does_loadBox agg_62 sz_62 rfl S (i := 0) rfl rfl | exact does_loadBox agg_62 sz_62 rfl S (i := 1) rfl rfl) ?_; clear H a; intro a H
  refine list_does H rfl (does_move rfl) ?_; clear H a; intro a H
  refine list_call H rfl rfl Try.func36 rfl rfl (ref_CheckPart rates pwn ptn pag RA rcp l A cp _ (hr.now S) hrn1 (hl.now S) hn1) ?_; clear H a
  rintro _ _ a ⟨rfl, S2⟩ H
  replace S := S.call S2; clear S2
  refine list_does H rfl (does_neq rfl rfl) ?_; clear H a; intro a H
  refine hK3 _ _ ?_
  clear hK3 K3
  refine cond_ H rfl (fun hc1 => ?_) (fun hc1 => ?_)
  · try simp only [Bool.or_eq_true, Bool.and_eq_true, Bool.not_eq_true', Bool.or_eq_false_iff, Bool.and_eq_false_iff, Bool.not_eq_false', decide_eq_true_eq, decide_eq_false_iff_not, Int.not_lt, Int.not_le] at hc1
    replace H := H.keep [] rfl
    refine seq_list (fun K4 hK4 => ?_)
    refine list_call H rfl rfl Try.func18 rfl rfl (law_works _) ?_; clear H a
    rintro _ _ a ⟨rfl, S2⟩ H
    replace S := S.call S2; clear S2
    refine list_does H rfl (does_assign rfl) ?_; clear H a; intro a H
    refine hK4 _ _ ?_
    clear hK4 K4
    refine wp_ret ?_
    refine ret1 (fn := Try.f10) rfl H rfl ?_
    exact ⟨rfl, (S.sel [] rfl rfl)⟩
  · try simp only [Bool.or_eq_true, Bool.and_eq_true, Bool.not_eq_true', Bool.or_eq_false_iff, Bool.and_eq_false_iff, Bool.not_eq_false', decide_eq_true_eq, decide_eq_false_iff_not, Int.not_lt, Int.not_le] at hc1
    refine wp_skip ?_
    refine hK2 _ _ ?_
    have h0 : checkP (⟨rates, pwn, ptn, pag⟩ : Part) l = 0 := by omega
    have hok := checkP_ok h0; have hll := hok.len
    replace H := H.keep [1, 3, 5] rfl
    refine seq_list (fun K5 hK5 => ?_)
    refine list_does H rfl (by first | exact does_loadBox agg_62 sz_62 rfl S (i := 0) rfl rfl | exact does_loadBox agg_62 sz_62 rfl S (i := 1) rfl rfl) ?_; clear H a; intro a H
    refine list_does H rfl (does_move rfl) ?_; clear H a; intro a H
    refine list_call H rfl rfl Try.func37 rfl rfl (ret_imp (chain_Wear rates pwn ptn pag RA rcp l A cp _ (hr.now S) hrn1 (hl.now S) hn1) (fun _ _ => wear_uni)) ?_; clear H a
    rintro _ _ a ⟨A5, c5, n5, f5, rfl, S2, hu5⟩ H
    replace S := S.call S2; clear S2
    refine list_does H rfl (does_move rfl) ?_; clear H a; intro a H
    refine list_does H rfl (does_extract rfl rfl) ?_; clear H a; intro a H
    refine list_does H rfl (does_extract rfl rfl) ?_; clear H a; intro a H
    refine list_does H rfl (does_assign rfl) ?_; clear H a; intro a H
    refine list_does H rfl (does_assign rfl) ?_; clear H a; intro a H
    refine hK5 _ _ ?_
    clear hK5 K5
    replace H := H.keep [1, 3, 5, 7, 8] rfl
    refine seq_list (fun K6 hK6 => ?_)
    refine list_does H rfl (does_move rfl) ?_; clear H a; intro a H
    refine list_call H rfl rfl Try.func38 rfl rfl (ref_CopyUses l A cp _ (hl.now S) hn) ?_; clear H a
    rintro _ _ a ⟨A3, c3, rfl, S2⟩ H
    replace S := S.call S2; clear S2
    refine list_does H rfl (does_assign rfl) ?_; clear H a; intro a H
    refine hK6 _ _ ?_
    clear hK6 K6
    have SR := (S.sel [1, 2, 3] rfl rfl)
    refine meet_sr (X := List Use) [1, 3, 5, 7, 8, 9] H rfl (fun mo => []) (fun mo => [ownM 70 6 A3 l.length c3 (ucell mo)]) (fun mo => mo.length = l.length ∧ (PartOk (⟨rates, pwn, ptn, pag⟩ : Part) mo → IsAt (⟨rates, pwn, ptn, pag⟩ : Part) mo mo.length → IsAt (⟨rates, pwn, ptn, pag⟩ : Part) l l.length ∧ ∀ k, inside (wearAt (⟨rates, pwn, ptn, pag⟩ : Part) mo k) (wearAt (⟨rates, pwn, ptn, pag⟩ : Part) l k))) SR (fun K8 hK8 => ?_) ?_
    · skip
      replace H := H.keep [1, 3, 5, 7, 8, 9] rfl
      refine seq_still (fun K9 hK9 => ?_)
      refine still_does H rfl (by first | exact does_field_pt fo_65_0 rfl | exact does_field fo_65_0 rfl) ?_; clear H a; intro a H
      refine still_does H rfl (does_load one_3 rfl (by first | exact hl.rd S (by omega) (by omega) | exact ownM.rd S (i := 1) rfl (by omega) (by omega) | exact boxM.rd S (i := 0) rfl rfl | exact boxM.rd S (i := 1) rfl rfl | exact boxM.rd S (i := 2) rfl rfl | exact boxM.rd S (i := 3) rfl rfl)) ?_; clear H a; intro a H
      refine still_does H rfl (does_geq rfl rfl) ?_; clear H a; intro a H
      refine still_does H rfl (does_move rfl) ?_; clear H a; intro a H
      apply still_guard (i := 3) (g := 35) (t := 40) (b := true) 5 H rfl rfl (by kernel_rfl) (by kernel_rfl) rfl rfl
      case h1 =>
        intro hg4
        have hq4 := hg4; try simp only [Bool.or_eq_true, Bool.and_eq_true, Bool.not_eq_true', Bool.or_eq_false_iff, Bool.and_eq_false_iff, Bool.not_eq_false', decide_eq_true_eq, decide_eq_false_iff_not, Int.not_lt, Int.not_le] at hq4
        refine still_yes' H rfl rfl (by assumption) ?_
        refine still_does H rfl (by first | exact does_field_pt fo_65_0 rfl | exact does_field fo_65_0 rfl) ?_; intro a H
        refine still_yes' H rfl rfl (by assumption) ?_
        refine still_does H rfl (does_load one_3 rfl (by first | exact hl.rd S (by omega) (by omega) | exact ownM.rd S (i := 1) rfl (by omega) (by omega) | exact boxM.rd S (i := 0) rfl rfl | exact boxM.rd S (i := 1) rfl rfl | exact boxM.rd S (i := 2) rfl rfl | exact boxM.rd S (i := 3) rfl rfl)) ?_; intro a H
        refine still_yes' H rfl rfl (by assumption) ?_
        refine still_does H rfl (does_move rfl) ?_; intro a H
        refine still_yes' H rfl rfl (by assumption) ?_
        refine still_does H rfl (does_len sl_63 rfl) ?_; intro a H
        refine still_yes' H rfl rfl (by assumption) ?_
        refine still_does H rfl (does_lss rfl rfl) ?_; intro a H
        exact wpStill_nil (H.strip 5 rfl rfl)
      case k =>
        clear H a; intro a H
        refine still_does H rfl (by first | exact does_and rfl rfl rfl | exact does_pick rfl rfl rfl) ?_; clear H a; intro a H
        refine still_does H rfl (does_move rfl) ?_; clear H a; intro a H
        apply still_guard (i := 10) (g := 42) (t := 49) (b := true) 7 H rfl rfl (by kernel_rfl) (by kernel_rfl) rfl rfl
        case h1 =>
          intro hg11
          have hq11 := hg11; try simp only [Bool.or_eq_true, Bool.and_eq_true, Bool.not_eq_true', Bool.or_eq_false_iff, Bool.and_eq_false_iff, Bool.not_eq_false', decide_eq_true_eq, decide_eq_false_iff_not, Int.not_lt, Int.not_le] at hq11
          refine still_yes' H rfl rfl (by assumption) ?_
          refine still_does H rfl (does_move rfl) ?_; intro a H
          refine still_yes' H rfl rfl (by assumption) ?_
          refine still_does H rfl (by first | exact does_field_pt fo_65_0 rfl | exact does_field fo_65_0 rfl) ?_; intro a H
          refine still_yes' H rfl rfl (by assumption) ?_
          refine still_does H rfl (does_load one_3 rfl (by first | exact hl.rd S (by omega) (by omega) | exact ownM.rd S (i := 1) rfl (by omega) (by omega) | exact boxM.rd S (i := 0) rfl rfl | exact boxM.rd S (i := 1) rfl rfl | exact boxM.rd S (i := 2) rfl rfl | exact boxM.rd S (i := 3) rfl rfl)) ?_; intro a H
          refine still_yes' H rfl rfl (by assumption) ?_
          refine still_does H rfl (by first | exact does_indexN sl_63 sz_70 rfl rfl (by first | exact hl.adr (by omega) | exact hr.adr (by omega) | exact ownM.adr S (i := 0) rfl (by omega) | exact ownM.adr S (i := 1) rfl (by omega)) (by first | omega | omega) | exact does_index sl_63 sz_70 rfl rfl (by first | exact hl.adr (by omega) | exact hr.adr (by omega) | exact ownM.adr S (i := 0) rfl (by omega) | exact ownM.adr S (i := 1) rfl (by omega)) (by omega) (by first | omega | omega)) ?_; intro a H
          refine still_yes' H rfl rfl (by assumption) ?_
          refine still_does H rfl (by first | exact does_field_pt fo_70_3 rfl | exact does_field fo_70_3 rfl) ?_; intro a H
          refine still_yes' H rfl rfl (by assumption) ?_
          refine still_does H rfl (does_load one_4 rfl (by first | exact hl.rd S (by omega) (by omega) | exact ownM.rd S (i := 1) rfl (by omega) (by omega) | exact boxM.rd S (i := 0) rfl rfl | exact boxM.rd S (i := 1) rfl rfl | exact boxM.rd S (i := 2) rfl rfl | exact boxM.rd S (i := 3) rfl rfl)) ?_; intro a H
          refine still_yes' H rfl rfl (by assumption) ?_
          refine still_does H rfl (does_not rfl) ?_; intro a H
          exact wpStill_nil (H.strip 7 rfl rfl)
        case k =>
          clear H a; intro a H
          refine still_does H rfl (by first | exact does_and rfl rfl rfl | exact does_pick rfl rfl rfl) ?_; clear H a; intro a H
          refine wpStill_nil (hK9 _ ?_)
          clear hK9 K9
          refine cond_ H rfl (fun hc2 => ?_) (fun hc2 => ?_)
          · try simp only [Bool.or_eq_true, Bool.and_eq_true, Bool.not_eq_true', Bool.or_eq_false_iff, Bool.and_eq_false_iff, Bool.not_eq_false', decide_eq_true_eq, decide_eq_false_iff_not, Int.not_lt, Int.not_le] at hc2
            replace H := H.keep [1, 3, 5, 7, 8, 9] rfl
            refine seq_list (fun K10 hK10 => ?_)
            refine list_does H rfl (does_move rfl) ?_; clear H a; intro a H
            refine list_does H rfl (by first | exact does_field_pt fo_65_0 rfl | exact does_field fo_65_0 rfl) ?_; clear H a; intro a H
            refine list_does H rfl (does_load one_3 rfl (by first | exact hl.rd S (by omega) (by omega) | exact ownM.rd S (i := 1) rfl (by omega) (by omega) | exact boxM.rd S (i := 0) rfl rfl | exact boxM.rd S (i := 1) rfl rfl | exact boxM.rd S (i := 2) rfl rfl | exact boxM.rd S (i := 3) rfl rfl)) ?_; clear H a; intro a H
            refine list_does H rfl (by first | exact does_indexN sl_63 sz_70 rfl rfl (by first | exact hl.adr (by omega) | exact hr.adr (by omega) | exact ownM.adr S (i := 0) rfl (by omega) | exact ownM.adr S (i := 1) rfl (by omega)) (by first | omega | omega) | exact does_index sl_63 sz_70 rfl rfl (by first | exact hl.adr (by omega) | exact hr.adr (by omega) | exact ownM.adr S (i := 0) rfl (by omega) | exact ownM.adr S (i := 1) rfl (by omega)) (by omega) (by first | omega | omega)) ?_; clear H a; intro a H
            refine list_does H rfl (by first | exact does_field_pt fo_70_3 rfl | exact does_field fo_70_3 rfl) ?_; clear H a; intro a H
            first | (refine list_store_own H S (i := 0) (kk := at_.toNat) (j := 3) rfl rfl rfl (by omega) (by omega) sz_4 rfl ?_)
            clear H a S; intro _ a S H
            refine hK10 _ _ ?_
            clear hK10 K10
            replace H := H.keep [1, 3, 5, 7, 8, 9] rfl
            refine one_list ?_
            refine list_does H rfl (does_move rfl) ?_; clear H a; intro a H
            refine list_does H rfl (by first | exact does_field_pt fo_65_0 rfl | exact does_field fo_65_0 rfl) ?_; clear H a; intro a H
            refine list_does H rfl (does_load one_3 rfl (by first | exact hl.rd S (by omega) (by omega) | exact ownM.rd S (i := 1) rfl (by omega) (by omega) | exact boxM.rd S (i := 0) rfl rfl | exact boxM.rd S (i := 1) rfl rfl | exact boxM.rd S (i := 2) rfl rfl | exact boxM.rd S (i := 3) rfl rfl)) ?_; clear H a; intro a H
            refine list_does H rfl (by first | exact does_field_pt fo_65_1 rfl | exact does_field fo_65_1 rfl) ?_; clear H a; intro a H
            refine list_does H rfl (by first | exact does_loadBox agg_42 sz_42 rfl S (i := 0) rfl rfl | exact does_loadBox agg_42 sz_42 rfl S (i := 1) rfl rfl | exact does_loadBox agg_42 sz_42 rfl S (i := 2) rfl rfl | exact does_loadBox agg_42 sz_42 rfl S (i := 3) rfl rfl) ?_; clear H a; intro a H
            refine list_does H rfl (by first | exact does_indexN sl_63 sz_70 rfl rfl (by first | exact hl.adr (by omega) | exact hr.adr (by omega) | exact ownM.adr S (i := 0) rfl (by omega) | exact ownM.adr S (i := 1) rfl (by omega)) (by first | omega | omega) | exact does_index sl_63 sz_70 rfl rfl (by first | exact hl.adr (by omega) | exact hr.adr (by omega) | exact ownM.adr S (i := 0) rfl (by omega) | exact ownM.adr S (i := 1) rfl (by omega)) (by omega) (by first | omega | omega)) ?_; clear H a; intro a H
            refine list_does H rfl (by first | exact does_field_pt fo_70_4 rfl | exact does_field fo_70_4 rfl) ?_; clear H a; intro a H
            first | (refine list_store_owns H S (i := 0) (kk := at_.toNat) (j := 4) rfl rfl rfl rfl (by omega) (by simp) sz_42 rfl ?_)
            clear H a S; intro _ a S H
            replace S := S.recell (i := 0) rfl (meas_cells (by omega))
            exact hK8 (measL l at_.toNat slo shi) a _ (⟨measL_len _ _ _ _, fun h1 h2 => ⟨meas_at (by omega) hc2.2 h1 h2, meas_wear (by omega) hc2.2⟩⟩) (S.sel [0, 1, 2, 3] rfl rfl) (H.keep [1, 3, 5, 7, 8, 9] rfl)
          · try simp only [Bool.or_eq_true, Bool.and_eq_true, Bool.not_eq_true', Bool.or_eq_false_iff, Bool.and_eq_false_iff, Bool.not_eq_false', decide_eq_true_eq, decide_eq_false_iff_not, Int.not_lt, Int.not_le] at hc2
            refine wp_skip ?_
            exact hK8 l a _ (⟨rfl, fun _ h2 => ⟨h2, fun _ => ⟨Int.le_refl _, Int.le_refl _⟩⟩⟩) (S.sel [0, 1, 2, 3] rfl rfl) (H.keep [1, 3, 5, 7, 8, 9] rfl)
    · intro xm a wm hp S H
      obtain ⟨mo, rfl⟩ : ∃ y, y = xm := ⟨_, rfl⟩
      clear SR
      have hml := hp.1; have hmo2 := hp.2; have hmn : mo.length ≤ 9223372036854775807 := by omega
      have SR := (S.sel [0, 1, 2, 3] rfl rfl)
      refine meet_sr (X := Unit) [1, 3, 5] H rfl (fun x => []) (fun x => []) (fun x => True) SR (fun K13 hK13 => ?_) ?_
      · skip
        replace H := H.keep [1, 3, 5, 7, 8, 9] rfl
        refine seq_list (fun K14 hK14 => ?_)
        refine list_does H rfl (by first | exact does_loadBox agg_62 sz_62 rfl S (i := 0) rfl rfl | exact does_loadBox agg_62 sz_62 rfl S (i := 1) rfl rfl | exact does_loadBox agg_62 sz_62 rfl S (i := 2) rfl rfl | exact does_loadBox agg_62 sz_62 rfl S (i := 3) rfl rfl) ?_; clear H a; intro a H
        refine list_does H rfl (does_move rfl) ?_; clear H a; intro a H
        refine list_call H rfl rfl Try.func36 rfl rfl (at_len hml (ref_CheckPart rates pwn ptn pag RA rcp mo A3 c3 _ (hr.now S) hrn1 (by rw [hml]; exact ownM.inS S (i := 0) rfl) hmn)) ?_; clear H a
        rintro _ _ a ⟨rfl, S2⟩ H
        replace S := S.call S2; clear S2
        refine list_does H rfl (does_eql rfl rfl) ?_; clear H a; intro a H
        refine hK14 _ _ ?_
        clear hK14 K14
        refine cond_ H rfl (fun hc3 => ?_) (fun hc3 => ?_)
        · try simp only [Bool.or_eq_true, Bool.and_eq_true, Bool.not_eq_true', Bool.or_eq_false_iff, Bool.and_eq_false_iff, Bool.not_eq_false', decide_eq_true_eq, decide_eq_false_iff_not, Int.not_lt, Int.not_le] at hc3
          replace H := H.keep [1, 3, 5, 7, 8, 9] rfl
          refine seq_list (fun K15 hK15 => ?_)
          refine list_does H rfl (by first | exact does_loadBox agg_62 sz_62 rfl S (i := 0) rfl rfl | exact does_loadBox agg_62 sz_62 rfl S (i := 1) rfl rfl | exact does_loadBox agg_62 sz_62 rfl S (i := 2) rfl rfl | exact does_loadBox agg_62 sz_62 rfl S (i := 3) rfl rfl) ?_; clear H a; intro a H
          refine list_does H rfl (does_move rfl) ?_; clear H a; intro a H
          refine list_call H rfl rfl Try.func37 rfl rfl (ret_imp (at_len hml (chain_Wear rates pwn ptn pag RA rcp mo A3 c3 _ (hr.now S) hrn1 (by rw [hml]; exact ownM.inS S (i := 0) rfl) hmn)) (fun _ _ => wear_uni)) ?_; clear H a
          rintro _ _ a ⟨A6, c6, n6, f6, rfl, S2, hu6⟩ H
          replace S := S.call S2; clear S2
          refine list_does H rfl (does_move rfl) ?_; clear H a; intro a H
          refine list_does H rfl (does_extract rfl rfl) ?_; clear H a; intro a H
          refine list_does H rfl (does_extract rfl rfl) ?_; clear H a; intro a H
          refine list_does H rfl (does_assign rfl) ?_; clear H a; intro a H
          refine list_does H rfl (does_assign rfl) ?_; clear H a; intro a H
          refine hK15 _ _ ?_
          clear hK15 K15
          replace H := H.keep [1, 3, 5, 7, 8, 10, 11] rfl
          refine seq_still (fun K16 hK16 => ?_)
          refine still_does H rfl (does_move rfl) ?_; clear H a; intro a H
          refine still_does H rfl (does_eql rfl rfl) ?_; clear H a; intro a H
          refine wpStill_nil (hK16 _ ?_)
          clear hK16 K16
          refine cond_ H rfl (fun hc4 => ?_) (fun hc4 => ?_)
          · try simp only [Bool.or_eq_true, Bool.and_eq_true, Bool.not_eq_true', Bool.or_eq_false_iff, Bool.and_eq_false_iff, Bool.not_eq_false', decide_eq_true_eq, decide_eq_false_iff_not, Int.not_lt, Int.not_le] at hc4
            refine wp_seq_k (fun K17 hK17 => ?_)
            have hok2 := checkP_ok hc3
            have hu6' := hu6 hc4
            have hin := hmo2 hok2 (wearE_zero hc4).2
            have hA := wearE_ok h0 hin.1
            have hu5' := hu5 hA
            replace H := H.keep [1, 3, 5, 7, 8, 10] rfl
            refine seq_still (fun K18 hK18 => ?_)
            refine still_does H rfl (does_move rfl) ?_; clear H a; intro a H
            refine still_does H rfl (does_neq rfl rfl) ?_; clear H a; intro a H
            refine still_does H rfl (does_move rfl) ?_; clear H a; intro a H
            apply still_guard (i := 2) (g := 77) (t := 82) (b := false) 5 H rfl rfl (by kernel_rfl) (by kernel_rfl) rfl rfl
            case h1 =>
              intro hg3
              have hq3 := hg3; try simp only [Bool.or_eq_true, Bool.and_eq_true, Bool.not_eq_true', Bool.or_eq_false_iff, Bool.and_eq_false_iff, Bool.not_eq_false', decide_eq_true_eq, decide_eq_false_iff_not, Int.not_lt, Int.not_le] at hq3
              refine still_yes' H rfl rfl (by assumption) ?_
              refine still_does H rfl (does_move rfl) ?_; intro a H
              refine still_yes' H rfl rfl (by assumption) ?_
              refine still_does H rfl (does_len sl_37 rfl) ?_; intro a H
              refine still_yes' H rfl rfl (by assumption) ?_
              refine still_does H rfl (does_move rfl) ?_; intro a H
              refine still_yes' H rfl rfl (by assumption) ?_
              refine still_does H rfl (does_len sl_63 rfl) ?_; intro a H
              refine still_yes' H rfl rfl (by assumption) ?_
              refine still_does H rfl (does_neq rfl rfl) ?_; intro a H
              exact wpStill_nil (H.strip 5 rfl rfl)
            case k =>
              clear H a; intro a H
              refine still_does H rfl (by first | exact does_or rfl rfl rfl | exact does_pick rfl rfl rfl) ?_; clear H a; intro a H
              refine still_does H rfl (does_move rfl) ?_; clear H a; intro a H
              apply still_guard (i := 9) (g := 84) (t := 89) (b := false) 5 H rfl rfl (by kernel_rfl) (by kernel_rfl) rfl rfl
              case h1 =>
                intro hg10
                have hq10 := hg10; try simp only [Bool.or_eq_true, Bool.and_eq_true, Bool.not_eq_true', Bool.or_eq_false_iff, Bool.and_eq_false_iff, Bool.not_eq_false', decide_eq_true_eq, decide_eq_false_iff_not, Int.not_lt, Int.not_le] at hq10
                refine still_yes' H rfl rfl (by assumption) ?_
                refine still_does H rfl (does_move rfl) ?_; intro a H
                refine still_yes' H rfl rfl (by assumption) ?_
                refine still_does H rfl (does_len sl_37 rfl) ?_; intro a H
                refine still_yes' H rfl rfl (by assumption) ?_
                refine still_does H rfl (does_move rfl) ?_; intro a H
                refine still_yes' H rfl rfl (by assumption) ?_
                refine still_does H rfl (does_len sl_63 rfl) ?_; intro a H
                refine still_yes' H rfl rfl (by assumption) ?_
                refine still_does H rfl (does_neq rfl rfl) ?_; intro a H
                exact wpStill_nil (H.strip 5 rfl rfl)
              case k =>
                clear H a; intro a H
                refine still_does H rfl (by first | exact does_or rfl rfl rfl | exact does_pick rfl rfl rfl) ?_; clear H a; intro a H
                refine wpStill_nil (hK18 _ ?_)
                clear hK18 K18
                refine cond_ H rfl (fun hc5 => ?_) (fun hc5 => ?_)
                · try simp only [Bool.or_eq_true, Bool.and_eq_true, Bool.not_eq_true', Bool.or_eq_false_iff, Bool.and_eq_false_iff, Bool.not_eq_false', decide_eq_true_eq, decide_eq_false_iff_not, Int.not_lt, Int.not_le] at hc5
                  exfalso; omega
                · try simp only [Bool.or_eq_true, Bool.and_eq_true, Bool.not_eq_true', Bool.or_eq_false_iff, Bool.and_eq_false_iff, Bool.not_eq_false', decide_eq_true_eq, decide_eq_false_iff_not, Int.not_lt, Int.not_le] at hc5
                  refine wp_skip ?_
                  refine hK17 _ _ ?_
                  replace H := H.keep [1, 3, 5, 7, 10] rfl
                  refine seq_still (fun K19 hK19 => ?_)
                  refine still_does H rfl (does_assign rfl) ?_; clear H a; intro a H
                  refine wpStill_nil (hK19 _ ?_)
                  clear hK19 K19
                  refine wp_block ?_
                  refine loop_st (X := Nat) (R0 := _) [1, 3, 5, 7, 10] H rfl (fun k => [(12, .int .i64 (k : Int))]) (fun k => []) (fun g k => k ≤ l.length ∧ g + k = l.length) (l.length) 0 ?_ (S.sel [0, 1, 2, 3, 4] rfl rfl) (H.keep [12, 1, 3, 5, 7, 10] rfl) ?_
                  · exact ⟨by omega, by omega⟩
                  · intro g1 x1 a w1 hp S H K20 hK20
                    obtain ⟨k, rfl⟩ : ∃ y, y = x1 := ⟨_, rfl⟩
                    skip
                    refine wp_seq_k (fun K21 hK21 => ?_)
                    replace H := H.keep [1, 3, 5, 7, 10, 12] rfl
                    refine seq_still (fun K22 hK22 => ?_)
                    refine still_does H rfl (does_move rfl) ?_; clear H a; intro a H
                    refine still_does H rfl (does_move rfl) ?_; clear H a; intro a H
                    refine still_does H rfl (does_len sl_63 rfl) ?_; clear H a; intro a H
                    refine still_does H rfl (does_lss rfl rfl) ?_; clear H a; intro a H
                    refine wpStill_nil (hK22 _ ?_)
                    clear hK22 K22
                    refine cond_ H rfl (fun hc6 => ?_) (fun hc6 => ?_)
                    · try simp only [Bool.or_eq_true, Bool.and_eq_true, Bool.not_eq_true', Bool.or_eq_false_iff, Bool.and_eq_false_iff, Bool.not_eq_false', decide_eq_true_eq, decide_eq_false_iff_not, Int.not_lt, Int.not_le] at hc6
                      refine wp_skip ?_
                      refine hK21 _ _ ?_
                      refine wp_seq_k (fun K23 hK23 => ?_)
                      refine wp_block ?_
                      replace H := H.keep [1, 3, 5, 7, 10, 12] rfl
                      refine seq_stillD (by kernel_rfl) (by kernel_rfl) (fun K24 hK24 => ?_)
                      replace S := S.drew
                      refine still_does H rfl (does_move rfl) ?_; clear H a; intro a H
                      refine still_does H rfl (does_move rfl) ?_; clear H a; intro a H
                      refine still_does H rfl (by first | exact does_indexN sl_37 sz_42 rfl rfl (by first | exact hl.adr (by omega) | exact hr.adr (by omega) | exact ownM.adr S (i := 1) rfl (by omega) | exact ownM.adr S (i := 0) rfl (by omega) | exact ownM.adr S (i := 2) rfl (by omega)) (by first | omega | omega) | exact does_index sl_37 sz_42 rfl rfl (by first | exact hl.adr (by omega) | exact hr.adr (by omega) | exact ownM.adr S (i := 1) rfl (by omega) | exact ownM.adr S (i := 0) rfl (by omega) | exact ownM.adr S (i := 2) rfl (by omega)) (by omega) (by first | omega | omega)) ?_; clear H a; intro a H
                      refine still_does H rfl (by first | exact does_field_pt fo_42_0 rfl | exact does_field fo_42_0 rfl) ?_; clear H a; intro a H
                      refine still_does H rfl (does_load one_3 rfl (by first | exact hl.rd S (by omega) (by omega) | exact ownM.rd S (i := 2) rfl (by omega) (by omega) | exact ownM.rd S (i := 0) rfl (by omega) (by omega) | exact boxM.rd S (i := 0) rfl rfl | exact boxM.rd S (i := 1) rfl rfl | exact boxM.rd S (i := 2) rfl rfl | exact boxM.rd S (i := 3) rfl rfl | exact boxM.rd S (i := 4) rfl rfl)) ?_; clear H a; intro a H
                      refine still_does H rfl (does_move rfl) ?_; clear H a; intro a H
                      refine still_does H rfl (does_move rfl) ?_; clear H a; intro a H
                      refine still_does H rfl (by first | exact does_indexN sl_37 sz_42 rfl rfl (by first | exact hl.adr (by omega) | exact hr.adr (by omega) | exact ownM.adr S (i := 1) rfl (by omega) | exact ownM.adr S (i := 0) rfl (by omega) | exact ownM.adr S (i := 2) rfl (by omega)) (by first | omega | omega) | exact does_index sl_37 sz_42 rfl rfl (by first | exact hl.adr (by omega) | exact hr.adr (by omega) | exact ownM.adr S (i := 1) rfl (by omega) | exact ownM.adr S (i := 0) rfl (by omega) | exact ownM.adr S (i := 2) rfl (by omega)) (by omega) (by first | omega | omega)) ?_; clear H a; intro a H
                      refine still_does H rfl (by first | exact does_field_pt fo_42_0 rfl | exact does_field fo_42_0 rfl) ?_; clear H a; intro a H
                      refine still_does H rfl (does_load one_3 rfl (by first | exact hl.rd S (by omega) (by omega) | exact ownM.rd S (i := 2) rfl (by omega) (by omega) | exact ownM.rd S (i := 0) rfl (by omega) (by omega) | exact boxM.rd S (i := 0) rfl rfl | exact boxM.rd S (i := 1) rfl rfl | exact boxM.rd S (i := 2) rfl rfl | exact boxM.rd S (i := 3) rfl rfl | exact boxM.rd S (i := 4) rfl rfl)) ?_; clear H a; intro a H
                      refine still_does H rfl (does_lss rfl rfl) ?_; clear H a; intro a H
                      refine still_does H rfl (does_move rfl) ?_; clear H a; intro a H
                      apply still_guard (i := 11) (g := 108) (t := 119) (b := false) 11 H rfl rfl (by kernel_rfl) (by kernel_rfl) rfl rfl
                      case h1 =>
                        intro hg12
                        have hq12 := hg12; try simp only [Bool.or_eq_true, Bool.and_eq_true, Bool.not_eq_true', Bool.or_eq_false_iff, Bool.and_eq_false_iff, Bool.not_eq_false', decide_eq_true_eq, decide_eq_false_iff_not, Int.not_lt, Int.not_le] at hq12
                        refine still_yes' H rfl rfl (by assumption) ?_
                        refine still_does H rfl (does_move rfl) ?_; intro a H
                        refine still_yes' H rfl rfl (by assumption) ?_
                        refine still_does H rfl (does_move rfl) ?_; intro a H
                        refine still_yes' H rfl rfl (by assumption) ?_
                        refine still_does H rfl (by first | exact does_indexN sl_37 sz_42 rfl rfl (by first | exact hl.adr (by omega) | exact hr.adr (by omega) | exact ownM.adr S (i := 1) rfl (by omega) | exact ownM.adr S (i := 0) rfl (by omega) | exact ownM.adr S (i := 2) rfl (by omega)) (by first | omega | omega) | exact does_index sl_37 sz_42 rfl rfl (by first | exact hl.adr (by omega) | exact hr.adr (by omega) | exact ownM.adr S (i := 1) rfl (by omega) | exact ownM.adr S (i := 0) rfl (by omega) | exact ownM.adr S (i := 2) rfl (by omega)) (by omega) (by first | omega | omega)) ?_; intro a H
                        refine still_yes' H rfl rfl (by assumption) ?_
                        refine still_does H rfl (by first | exact does_field_pt fo_42_1 rfl | exact does_field fo_42_1 rfl) ?_; intro a H
                        refine still_yes' H rfl rfl (by assumption) ?_
                        refine still_does H rfl (does_load one_3 rfl (by first | exact hl.rd S (by omega) (by omega) | exact ownM.rd S (i := 2) rfl (by omega) (by omega) | exact ownM.rd S (i := 0) rfl (by omega) (by omega) | exact boxM.rd S (i := 0) rfl rfl | exact boxM.rd S (i := 1) rfl rfl | exact boxM.rd S (i := 2) rfl rfl | exact boxM.rd S (i := 3) rfl rfl | exact boxM.rd S (i := 4) rfl rfl)) ?_; intro a H
                        refine still_yes' H rfl rfl (by assumption) ?_
                        refine still_does H rfl (does_move rfl) ?_; intro a H
                        refine still_yes' H rfl rfl (by assumption) ?_
                        refine still_does H rfl (does_move rfl) ?_; intro a H
                        refine still_yes' H rfl rfl (by assumption) ?_
                        refine still_does H rfl (by first | exact does_indexN sl_37 sz_42 rfl rfl (by first | exact hl.adr (by omega) | exact hr.adr (by omega) | exact ownM.adr S (i := 1) rfl (by omega) | exact ownM.adr S (i := 0) rfl (by omega) | exact ownM.adr S (i := 2) rfl (by omega)) (by first | omega | omega) | exact does_index sl_37 sz_42 rfl rfl (by first | exact hl.adr (by omega) | exact hr.adr (by omega) | exact ownM.adr S (i := 1) rfl (by omega) | exact ownM.adr S (i := 0) rfl (by omega) | exact ownM.adr S (i := 2) rfl (by omega)) (by omega) (by first | omega | omega)) ?_; intro a H
                        refine still_yes' H rfl rfl (by assumption) ?_
                        refine still_does H rfl (by first | exact does_field_pt fo_42_1 rfl | exact does_field fo_42_1 rfl) ?_; intro a H
                        refine still_yes' H rfl rfl (by assumption) ?_
                        refine still_does H rfl (does_load one_3 rfl (by first | exact hl.rd S (by omega) (by omega) | exact ownM.rd S (i := 2) rfl (by omega) (by omega) | exact ownM.rd S (i := 0) rfl (by omega) (by omega) | exact boxM.rd S (i := 0) rfl rfl | exact boxM.rd S (i := 1) rfl rfl | exact boxM.rd S (i := 2) rfl rfl | exact boxM.rd S (i := 3) rfl rfl | exact boxM.rd S (i := 4) rfl rfl)) ?_; intro a H
                        refine still_yes' H rfl rfl (by assumption) ?_
                        refine still_does H rfl (does_gtr rfl rfl) ?_; intro a H
                        exact wpStill_nil (H.strip 11 rfl rfl)
                      case k =>
                        clear H a; intro a H
                        refine still_does H rfl (by first | exact does_or rfl rfl rfl | exact does_pick rfl rfl rfl) ?_; clear H a; intro a H
                        refine wpStill_nil (hK24 _ ?_)
                        clear hK24 K24
                        refine cond_ H rfl (fun hc7 => ?_) (fun hc7 => ?_)
                        · try simp only [Bool.or_eq_true, Bool.and_eq_true, Bool.not_eq_true', Bool.or_eq_false_iff, Bool.and_eq_false_iff, Bool.not_eq_false', decide_eq_true_eq, decide_eq_false_iff_not, Int.not_lt, Int.not_le] at hc7
                          exfalso
                          have h8 := hin.2 k
                          rw [hu6'.2 k (by omega), hu5'.2 k (by omega)] at hc7
                          unfold inside at h8; omega
                        · try simp only [Bool.or_eq_true, Bool.and_eq_true, Bool.not_eq_true', Bool.or_eq_false_iff, Bool.and_eq_false_iff, Bool.not_eq_false', decide_eq_true_eq, decide_eq_false_iff_not, Int.not_lt, Int.not_le] at hc7
                          refine wp_skip ?_
                          refine hK23 _ _ ?_
                          replace H := H.keep [1, 3, 5, 7, 10, 12] rfl
                          refine one_still ?_
                          refine still_does H rfl (does_move rfl) ?_; clear H a; intro a H
                          refine still_does H rfl (does_add rfl rfl (by unfold i64ok; omega)) ?_; clear H a; intro a H
                          refine still_does H rfl (does_assign rfl) ?_; clear H a; intro a H
                          refine wpStill_nil ?_
                          exact hK20 (g1 - 1) (k + 1) a _ (by omega) (by omega) (S.sel [0, 1, 2, 3, 4] rfl rfl) (H.keep [12, 1, 3, 5, 7, 10] rfl)
                    · try simp only [Bool.or_eq_true, Bool.and_eq_true, Bool.not_eq_true', Bool.or_eq_false_iff, Bool.and_eq_false_iff, Bool.not_eq_false', decide_eq_true_eq, decide_eq_false_iff_not, Int.not_lt, Int.not_le] at hc6
                      refine wp_exit ?_
                      exact hK13 () a _ (trivial) (S.sel [1, 2, 3, 4] rfl rfl) (H.keep [1, 3, 5] rfl)
          · try simp only [Bool.or_eq_true, Bool.and_eq_true, Bool.not_eq_true', Bool.or_eq_false_iff, Bool.and_eq_false_iff, Bool.not_eq_false', decide_eq_true_eq, decide_eq_false_iff_not, Int.not_lt, Int.not_le] at hc4
            refine wp_skip ?_
            exact hK13 () a _ (trivial) (S.sel [1, 2, 3, 4] rfl rfl) (H.keep [1, 3, 5] rfl)
        · try simp only [Bool.or_eq_true, Bool.and_eq_true, Bool.not_eq_true', Bool.or_eq_false_iff, Bool.and_eq_false_iff, Bool.not_eq_false', decide_eq_true_eq, decide_eq_false_iff_not, Int.not_lt, Int.not_le] at hc3
          refine wp_skip ?_
          exact hK13 () a _ (trivial) (S.sel [0, 1, 2, 3] rfl rfl) (H.keep [1, 3, 5] rfl)
      · intro xm a wm hp S H
        obtain ⟨x, rfl⟩ : ∃ y, y = xm := ⟨_, rfl⟩
        clear SR
        replace H := H.keep [1, 3, 5] rfl
        refine seq_list (fun K26 hK26 => ?_)
        refine list_does H rfl (by first | exact does_loadBox agg_62 sz_62 rfl S (i := 0) rfl rfl | exact does_loadBox agg_62 sz_62 rfl S (i := 1) rfl rfl | exact does_loadBox agg_62 sz_62 rfl S (i := 2) rfl rfl | exact does_loadBox agg_62 sz_62 rfl S (i := 3) rfl rfl) ?_; clear H a; intro a H
        refine list_does H rfl (does_move rfl) ?_; clear H a; intro a H
        refine list_does H rfl (by first | exact does_field_pt fo_65_2 rfl | exact does_field fo_65_2 rfl) ?_; clear H a; intro a H
        refine list_does H rfl (does_load one_3 rfl (by first | exact hl.rd S (by omega) (by omega) | exact ownM.rd S (i := 1) rfl (by omega) (by omega) | exact boxM.rd S (i := 0) rfl rfl | exact boxM.rd S (i := 1) rfl rfl | exact boxM.rd S (i := 2) rfl rfl | exact boxM.rd S (i := 3) rfl rfl)) ?_; clear H a; intro a H
        refine list_does H rfl (by first | exact does_field_pt fo_65_3 rfl | exact does_field fo_65_3 rfl) ?_; clear H a; intro a H
        refine list_does H rfl (does_load one_3 rfl (by first | exact hl.rd S (by omega) (by omega) | exact ownM.rd S (i := 1) rfl (by omega) (by omega) | exact boxM.rd S (i := 0) rfl rfl | exact boxM.rd S (i := 1) rfl rfl | exact boxM.rd S (i := 2) rfl rfl | exact boxM.rd S (i := 3) rfl rfl)) ?_; clear H a; intro a H
        refine list_call H rfl rfl Try.func39 rfl rfl (chain_Due rates pwn ptn pag RA rcp l A cp cls day _ (hr.now S) hrn1 (hl.now S) hn1) ?_; clear H a
        rintro _ _ a ⟨rfl, S2⟩ H
        replace S := S.call S2; clear S2
        refine list_does H rfl (does_move rfl) ?_; clear H a; intro a H
        refine list_does H rfl (does_extract rfl rfl) ?_; clear H a; intro a H
        refine list_does H rfl (does_extract rfl rfl) ?_; clear H a; intro a H
        refine list_does H rfl (does_assign rfl) ?_; clear H a; intro a H
        refine list_does H rfl (does_assign rfl) ?_; clear H a; intro a H
        refine hK26 _ _ ?_
        clear hK26 K26
        refine wp_seq_k (fun K27 hK27 => ?_)
        have hds := due_says (cls := cls) (day := day) (n := 0) h0
        generalize dueO (⟨rates, pwn, ptn, pag⟩ : Part) l cls day = r at H hds
        obtain ⟨n, e⟩ := r
        dsimp only at hds
        rcases hds with he | ⟨he, hd1, hAt, hd2, hd3, hd4, hd5⟩
        · skip
          skip
          replace H := H.keep [1, 3, 5, 13, 14] rfl
          refine seq_still (fun K28 hK28 => ?_)
          refine still_does H rfl (does_move rfl) ?_; clear H a; intro a H
          refine still_does H rfl (does_neq rfl rfl) ?_; clear H a; intro a H
          refine still_does H rfl (does_move rfl) ?_; clear H a; intro a H
          apply still_guard (i := 2) (g := 133) (t := 136) (b := false) 3 H rfl rfl (by kernel_rfl) (by kernel_rfl) rfl rfl
          case h1 =>
            intro hg3
            have hq3 := hg3; try simp only [Bool.or_eq_true, Bool.and_eq_true, Bool.not_eq_true', Bool.or_eq_false_iff, Bool.and_eq_false_iff, Bool.not_eq_false', decide_eq_true_eq, decide_eq_false_iff_not, Int.not_lt, Int.not_le] at hq3
            refine still_yes' H rfl rfl (by assumption) ?_
            refine still_does H rfl (does_move rfl) ?_; intro a H
            refine still_yes' H rfl rfl (by assumption) ?_
            refine still_does H rfl (does_len sl_63 rfl) ?_; intro a H
            refine still_yes' H rfl rfl (by assumption) ?_
            refine still_does H rfl (does_eql rfl rfl) ?_; intro a H
            exact wpStill_nil (H.strip 3 rfl rfl)
          case k =>
            clear H a; intro a H
            refine still_does H rfl (by first | exact does_or rfl rfl rfl | exact does_pick rfl rfl rfl) ?_; clear H a; intro a H
            refine wpStill_nil (hK28 _ ?_)
            clear hK28 K28
            refine cond_ H rfl (fun hc8 => ?_) (fun hc8 => ?_)
            · try simp only [Bool.or_eq_true, Bool.and_eq_true, Bool.not_eq_true', Bool.or_eq_false_iff, Bool.and_eq_false_iff, Bool.not_eq_false', decide_eq_true_eq, decide_eq_false_iff_not, Int.not_lt, Int.not_le] at hc8
              replace H := H.keep [14] rfl
              refine seq_list (fun K29 hK29 => ?_)
              refine list_does H rfl (does_move rfl) ?_; clear H a; intro a H
              refine list_does H rfl (does_eql rfl rfl) ?_; clear H a; intro a H
              refine list_does H rfl (does_move rfl) ?_; clear H a; intro a H
              refine list_still 2 ?_
              apply still_guard (i := 2) (g := 140) (t := 142) (b := false) 2 H rfl rfl (by kernel_rfl) (by kernel_rfl) rfl rfl
              case h1 =>
                intro hg3
                have hq3 := hg3; try simp only [Bool.or_eq_true, Bool.and_eq_true, Bool.not_eq_true', Bool.or_eq_false_iff, Bool.and_eq_false_iff, Bool.not_eq_false', decide_eq_true_eq, decide_eq_false_iff_not, Int.not_lt, Int.not_le] at hq3
                refine still_yes' H rfl rfl (by assumption) ?_
                refine still_does H rfl (does_move rfl) ?_; intro a H
                refine still_yes' H rfl rfl (by assumption) ?_
                refine still_does H rfl (does_eql rfl rfl) ?_; intro a H
                exact wpStill_nil (H.strip 2 rfl rfl)
              case k =>
                clear H a; intro a H
                refine wpStill_nil ?_
                refine list_does H rfl (by first | exact does_or rfl rfl rfl | exact does_pick rfl rfl rfl) ?_; clear H a; intro a H
                refine list_does H rfl (does_move rfl) ?_; clear H a; intro a H
                refine list_still 2 ?_
                apply still_guard (i := 6) (g := 144) (t := 146) (b := false) 2 H rfl rfl (by kernel_rfl) (by kernel_rfl) rfl rfl
                case h1 =>
                  intro hg7
                  have hq7 := hg7; try simp only [Bool.or_eq_true, Bool.and_eq_true, Bool.not_eq_true', Bool.or_eq_false_iff, Bool.and_eq_false_iff, Bool.not_eq_false', decide_eq_true_eq, decide_eq_false_iff_not, Int.not_lt, Int.not_le] at hq7
                  refine still_yes' H rfl rfl (by assumption) ?_
                  refine still_does H rfl (does_move rfl) ?_; intro a H
                  refine still_yes' H rfl rfl (by assumption) ?_
                  refine still_does H rfl (does_eql rfl rfl) ?_; intro a H
                  exact wpStill_nil (H.strip 2 rfl rfl)
                case k =>
                  clear H a; intro a H
                  refine wpStill_nil ?_
                  refine list_does H rfl (Does.to (does_or rfl rfl rfl) (show Value.bool _ = Value.bool true from congrArg Value.bool (by dsimp only; rcases he with h | h <;> subst h <;> rfl))) ?_; clear H a; intro a H
                  refine list_does H rfl (does_move rfl) ?_; clear H a; intro a H
                  refine list_yes H rfl rfl ?_
                  refine list_call H rfl rfl Try.func18 rfl rfl (law_works _) ?_; clear H a
                  rintro _ _ a ⟨rfl, S2⟩ H
                  replace S := S.call S2; clear S2
                  refine list_does H rfl (by first | exact does_and rfl rfl rfl | exact does_pick rfl rfl rfl) ?_; clear H a; intro a H
                  refine list_does H rfl (does_assign rfl) ?_; clear H a; intro a H
                  refine hK29 _ _ ?_
                  clear hK29 K29
                  refine wp_ret ?_
                  refine ret1 (fn := Try.f10) rfl H rfl ?_
                  exact ⟨rfl, (S.sel [] rfl rfl)⟩
            · try simp only [Bool.or_eq_true, Bool.and_eq_true, Bool.not_eq_true', Bool.or_eq_false_iff, Bool.and_eq_false_iff, Bool.not_eq_false', decide_eq_true_eq, decide_eq_false_iff_not, Int.not_lt, Int.not_le] at hc8
              exfalso; omega
        · skip
          subst he
          have hrt := hok.rate (k := cls.toNat) (by have : ((⟨rates, pwn, ptn, pag⟩ : Part).rates.length : Int) = rates.length := rfl; omega)
          unfold rateOk at hrt; simp only [decide_eq_true_eq] at hrt
          have hdt := due_turns (p := (⟨rates, pwn, ptn, pag⟩ : Part)) hd3 hd4 (r := (rates.getD cls.toNat (0, 0)).2) (by omega)
          rw [← hd5] at hdt
          replace H := H.keep [1, 3, 5, 13, 14] rfl
          refine seq_still (fun K30 hK30 => ?_)
          refine still_does H rfl (does_move rfl) ?_; clear H a; intro a H
          refine still_does H rfl (does_neq rfl rfl) ?_; clear H a; intro a H
          refine still_does H rfl (does_move rfl) ?_; clear H a; intro a H
          apply still_guard (i := 2) (g := 133) (t := 136) (b := false) 3 H rfl rfl (by kernel_rfl) (by kernel_rfl) rfl rfl
          case h1 =>
            intro hg3
            have hq3 := hg3; try simp only [Bool.or_eq_true, Bool.and_eq_true, Bool.not_eq_true', Bool.or_eq_false_iff, Bool.and_eq_false_iff, Bool.not_eq_false', decide_eq_true_eq, decide_eq_false_iff_not, Int.not_lt, Int.not_le] at hq3
            refine still_yes' H rfl rfl (by assumption) ?_
            refine still_does H rfl (does_move rfl) ?_; intro a H
            refine still_yes' H rfl rfl (by assumption) ?_
            refine still_does H rfl (does_len sl_63 rfl) ?_; intro a H
            refine still_yes' H rfl rfl (by assumption) ?_
            refine still_does H rfl (does_eql rfl rfl) ?_; intro a H
            exact wpStill_nil (H.strip 3 rfl rfl)
          case k =>
            clear H a; intro a H
            refine still_does H rfl (by first | exact does_or rfl rfl rfl | exact does_pick rfl rfl rfl) ?_; clear H a; intro a H
            refine wpStill_nil (hK30 _ ?_)
            clear hK30 K30
            refine cond_ H rfl (fun hc9 => ?_) (fun hc9 => ?_)
            · try simp only [Bool.or_eq_true, Bool.and_eq_true, Bool.not_eq_true', Bool.or_eq_false_iff, Bool.and_eq_false_iff, Bool.not_eq_false', decide_eq_true_eq, decide_eq_false_iff_not, Int.not_lt, Int.not_le] at hc9
              replace H := H.keep [14] rfl
              refine seq_list (fun K31 hK31 => ?_)
              refine list_does H rfl (does_move rfl) ?_; clear H a; intro a H
              refine list_does H rfl (does_eql rfl rfl) ?_; clear H a; intro a H
              refine list_does H rfl (does_move rfl) ?_; clear H a; intro a H
              refine list_still 2 ?_
              apply still_guard (i := 2) (g := 140) (t := 142) (b := false) 2 H rfl rfl (by kernel_rfl) (by kernel_rfl) rfl rfl
              case h1 =>
                intro hg3
                have hq3 := hg3; try simp only [Bool.or_eq_true, Bool.and_eq_true, Bool.not_eq_true', Bool.or_eq_false_iff, Bool.and_eq_false_iff, Bool.not_eq_false', decide_eq_true_eq, decide_eq_false_iff_not, Int.not_lt, Int.not_le] at hq3
                refine still_yes' H rfl rfl (by assumption) ?_
                refine still_does H rfl (does_move rfl) ?_; intro a H
                refine still_yes' H rfl rfl (by assumption) ?_
                refine still_does H rfl (does_eql rfl rfl) ?_; intro a H
                exact wpStill_nil (H.strip 2 rfl rfl)
              case k =>
                clear H a; intro a H
                refine wpStill_nil ?_
                refine list_does H rfl (by first | exact does_or rfl rfl rfl | exact does_pick rfl rfl rfl) ?_; clear H a; intro a H
                refine list_does H rfl (does_move rfl) ?_; clear H a; intro a H
                refine list_still 2 ?_
                apply still_guard (i := 6) (g := 144) (t := 146) (b := false) 2 H rfl rfl (by kernel_rfl) (by kernel_rfl) rfl rfl
                case h1 =>
                  intro hg7
                  have hq7 := hg7; try simp only [Bool.or_eq_true, Bool.and_eq_true, Bool.not_eq_true', Bool.or_eq_false_iff, Bool.and_eq_false_iff, Bool.not_eq_false', decide_eq_true_eq, decide_eq_false_iff_not, Int.not_lt, Int.not_le] at hq7
                  refine still_yes' H rfl rfl (by assumption) ?_
                  refine still_does H rfl (does_move rfl) ?_; intro a H
                  refine still_yes' H rfl rfl (by assumption) ?_
                  refine still_does H rfl (does_eql rfl rfl) ?_; intro a H
                  exact wpStill_nil (H.strip 2 rfl rfl)
                case k =>
                  clear H a; intro a H
                  refine wpStill_nil ?_
                  refine list_does H rfl (Does.to (does_or rfl rfl rfl) (show Value.bool _ = Value.bool true from rfl)) ?_; clear H a; intro a H
                  refine list_does H rfl (does_move rfl) ?_; clear H a; intro a H
                  refine list_yes H rfl rfl ?_
                  refine list_call H rfl rfl Try.func18 rfl rfl (law_works _) ?_; clear H a
                  rintro _ _ a ⟨rfl, S2⟩ H
                  replace S := S.call S2; clear S2
                  refine list_does H rfl (by first | exact does_and rfl rfl rfl | exact does_pick rfl rfl rfl) ?_; clear H a; intro a H
                  refine list_does H rfl (does_assign rfl) ?_; clear H a; intro a H
                  refine hK31 _ _ ?_
                  clear hK31 K31
                  refine wp_ret ?_
                  refine ret1 (fn := Try.f10) rfl H rfl ?_
                  exact ⟨rfl, (S.sel [] rfl rfl)⟩
            · try simp only [Bool.or_eq_true, Bool.and_eq_true, Bool.not_eq_true', Bool.or_eq_false_iff, Bool.and_eq_false_iff, Bool.not_eq_false', decide_eq_true_eq, decide_eq_false_iff_not, Int.not_lt, Int.not_le] at hc9
              refine wp_skip ?_
              refine hK27 _ _ ?_
              refine wp_seq_k (fun K32 hK32 => ?_)
              replace H := H.keep [1, 3, 5, 13] rfl
              refine seq_still (fun K33 hK33 => ?_)
              refine still_does H rfl (does_move rfl) ?_; clear H a; intro a H
              refine still_does H rfl (does_lss rfl rfl) ?_; clear H a; intro a H
              refine still_does H rfl (does_move rfl) ?_; clear H a; intro a H
              apply still_guard (i := 2) (g := 153) (t := 155) (b := false) 2 H rfl rfl (by kernel_rfl) (by kernel_rfl) rfl rfl
              case h1 =>
                intro hg3
                have hq3 := hg3; try simp only [Bool.or_eq_true, Bool.and_eq_true, Bool.not_eq_true', Bool.or_eq_false_iff, Bool.and_eq_false_iff, Bool.not_eq_false', decide_eq_true_eq, decide_eq_false_iff_not, Int.not_lt, Int.not_le] at hq3
                refine still_yes' H rfl rfl (by assumption) ?_
                refine still_does H rfl (does_move rfl) ?_; intro a H
                refine still_yes' H rfl rfl (by assumption) ?_
                refine still_does H rfl (does_gtr rfl rfl) ?_; intro a H
                exact wpStill_nil (H.strip 2 rfl rfl)
              case k =>
                clear H a; intro a H
                refine still_does H rfl (by first | exact does_or rfl rfl rfl | exact does_pick rfl rfl rfl) ?_; clear H a; intro a H
                refine wpStill_nil (hK33 _ ?_)
                clear hK33 K33
                refine cond_ H rfl (fun hc10 => ?_) (fun hc10 => ?_)
                · try simp only [Bool.or_eq_true, Bool.and_eq_true, Bool.not_eq_true', Bool.or_eq_false_iff, Bool.and_eq_false_iff, Bool.not_eq_false', decide_eq_true_eq, decide_eq_false_iff_not, Int.not_lt, Int.not_le] at hc10
                  exfalso; omega
                · try simp only [Bool.or_eq_true, Bool.and_eq_true, Bool.not_eq_true', Bool.or_eq_false_iff, Bool.and_eq_false_iff, Bool.not_eq_false', decide_eq_true_eq, decide_eq_false_iff_not, Int.not_lt, Int.not_le] at hc10
                  refine wp_skip ?_
                  refine hK32 _ _ ?_
                  refine wp_seq_k (fun K34 hK34 => ?_)
                  replace H := H.keep [1, 3, 5, 13] rfl
                  refine seq_still (fun K35 hK35 => ?_)
                  refine still_does H rfl (does_assign rfl) ?_; clear H a; intro a H
                  refine wpStill_nil (hK35 _ ?_)
                  clear hK35 K35
                  refine wp_block ?_
                  refine loop_st (X := Nat) (R0 := _) [1, 3, 5, 13] H rfl (fun i => [(15, .int .i64 (i : Int))]) (fun i => []) (fun g i => i ≤ 2 ∧ g + i = 2) (2) 0 ?_ (S.sel [0, 1, 2, 3] rfl rfl) (H.keep [15, 1, 3, 5, 13] rfl) ?_
                  · exact ⟨by omega, by omega⟩
                  · intro g2 x2 a w2 hp S H K36 hK36
                    obtain ⟨i, rfl⟩ : ∃ y, y = x2 := ⟨_, rfl⟩
                    skip
                    refine wp_seq_k (fun K37 hK37 => ?_)
                    replace H := H.keep [1, 3, 5, 13, 15] rfl
                    refine seq_still (fun K38 hK38 => ?_)
                    refine still_does H rfl (does_move rfl) ?_; clear H a; intro a H
                    refine still_does H rfl (does_lss rfl rfl) ?_; clear H a; intro a H
                    refine still_does H rfl (does_move rfl) ?_; clear H a; intro a H
                    apply still_guard (i := 2) (g := 159) (t := 163) (b := true) 4 H rfl rfl (by kernel_rfl) (by kernel_rfl) rfl rfl
                    case h1 =>
                      intro hg3
                      have hq3 := hg3; try simp only [Bool.or_eq_true, Bool.and_eq_true, Bool.not_eq_true', Bool.or_eq_false_iff, Bool.and_eq_false_iff, Bool.not_eq_false', decide_eq_true_eq, decide_eq_false_iff_not, Int.not_lt, Int.not_le] at hq3
                      refine still_yes' H rfl rfl (by assumption) ?_
                      refine still_does H rfl (does_move rfl) ?_; intro a H
                      refine still_yes' H rfl rfl (by assumption) ?_
                      refine still_does H rfl (does_move rfl) ?_; intro a H
                      refine still_yes' H rfl rfl (by assumption) ?_
                      refine still_does H rfl (does_add rfl rfl (by unfold i64ok; omega)) ?_; intro a H
                      refine still_yes' H rfl rfl (by assumption) ?_
                      refine still_does H rfl (does_leq rfl rfl) ?_; intro a H
                      exact wpStill_nil (H.strip 4 rfl rfl)
                    case k =>
                      clear H a; intro a H
                      refine still_does H rfl (by first | exact does_and rfl rfl rfl | exact does_pick rfl rfl rfl) ?_; clear H a; intro a H
                      refine wpStill_nil (hK38 _ ?_)
                      clear hK38 K38
                      refine cond_ H rfl (fun hc11 => ?_) (fun hc11 => ?_)
                      · try simp only [Bool.or_eq_true, Bool.and_eq_true, Bool.not_eq_true', Bool.or_eq_false_iff, Bool.and_eq_false_iff, Bool.not_eq_false', decide_eq_true_eq, decide_eq_false_iff_not, Int.not_lt, Int.not_le] at hc11
                        refine wp_skip ?_
                        refine hK37 _ _ ?_
                        refine wp_seq_k (fun K39 hK39 => ?_)
                        refine wp_block ?_
                        replace H := H.keep [1, 3, 5, 13, 15] rfl
                        refine seq_list (fun K40 hK40 => ?_)
                        refine list_does H rfl (by first | exact does_field_pt fo_65_3 rfl | exact does_field fo_65_3 rfl) ?_; clear H a; intro a H
                        refine list_does H rfl (does_load one_3 rfl (by first | exact hl.rd S (by omega) (by omega) | exact ownM.rd S (i := 1) rfl (by omega) (by omega) | exact boxM.rd S (i := 0) rfl rfl | exact boxM.rd S (i := 1) rfl rfl | exact boxM.rd S (i := 2) rfl rfl | exact boxM.rd S (i := 3) rfl rfl)) ?_; clear H a; intro a H
                        refine list_does H rfl (does_move rfl) ?_; clear H a; intro a H
                        refine list_does H rfl (does_move rfl) ?_; clear H a; intro a H
                        refine list_does H rfl (does_add rfl rfl (by unfold i64ok; omega)) ?_; clear H a; intro a H
                        refine list_does H rfl (by first | exact does_field_pt fo_65_2 rfl | exact does_field fo_65_2 rfl) ?_; clear H a; intro a H
                        refine list_does H rfl (does_load one_3 rfl (by first | exact hl.rd S (by omega) (by omega) | exact ownM.rd S (i := 1) rfl (by omega) (by omega) | exact boxM.rd S (i := 0) rfl rfl | exact boxM.rd S (i := 1) rfl rfl | exact boxM.rd S (i := 2) rfl rfl | exact boxM.rd S (i := 3) rfl rfl)) ?_; clear H a; intro a H
                        refine list_does H rfl (does_build bt_70 rfl rfl) ?_; clear H a; intro a H
                        refine list_alloc H rfl S ze_70 ?_; clear H a S; intro b16 _ a hb16 hbw16 S H
                        first | (refine list_store H S (i := 0) rfl rfl rfl rfl sz_70 rfl rfl ?_) | (refine list_store H S (i := 1) rfl rfl rfl rfl sz_70 rfl rfl ?_) | (refine list_store H S (i := 2) rfl rfl rfl rfl sz_70 rfl rfl ?_) | (refine list_store H S (i := 3) rfl rfl rfl rfl sz_70 rfl rfl ?_) | (refine list_store H S (i := 4) rfl rfl rfl rfl sz_70 rfl rfl ?_) | (refine list_store_own H S (i := 0) rfl rfl rfl (by omega) (by omega) sz_70 rfl ?_) | (refine list_store_own H S (i := 1) rfl rfl rfl (by omega) (by omega) sz_70 rfl ?_) | (refine list_store_own H S (i := 2) rfl rfl rfl (by omega) (by omega) sz_70 rfl ?_) | (refine list_store_own H S (i := 3) rfl rfl rfl (by omega) (by omega) sz_70 rfl ?_) | (refine list_store_own H S (i := 4) rfl rfl rfl (by omega) (by omega) sz_70 rfl ?_)
                        clear H a S; intro _ a S H
                        refine hK40 _ _ ?_
                        clear hK40 K40
                        replace H := H.keep [1, 3, 5, 13, 15, 16] rfl
                        replace S := S.drew
                        refine seq_wt 999999 (.q 0 (.q 1 (.q 3 (.b2 2 (.e 4 (.e 5 (.e 6 (.q 7 (.q 8 (.q 9 (.q 10 (.q 11 .nil)))))))) 4 (.e 2 (.e 5 (.e 6 (.q 7 (.q 8 (.q 9 (.q 10 (.q 11 .nil)))))))))))) (by kernel_rfl) (by kernel_rfl) (S.sel [0, 1, 2, 3, 4] rfl rfl) (fun K41 hK41 => ?_)
                        refine wt_does H rfl rfl (fun _ S => by first | exact does_loadBox agg_62 sz_62 rfl S (i := 0) rfl rfl | exact does_loadBox agg_62 sz_62 rfl S (i := 1) rfl rfl | exact does_loadBox agg_62 sz_62 rfl S (i := 2) rfl rfl | exact does_loadBox agg_62 sz_62 rfl S (i := 3) rfl rfl | exact does_loadBox agg_62 sz_62 rfl S (i := 4) rfl rfl) ?_; clear H a; intro a H
                        refine wt_does H rfl rfl (fun _ S => does_move rfl) ?_; clear H a; intro a H
                        refine wt_does H rfl rfl (fun _ S => by first | exact does_loadBox agg_70 sz_70 rfl S (i := 0) rfl rfl | exact does_loadBox agg_70 sz_70 rfl S (i := 1) rfl rfl | exact does_loadBox agg_70 sz_70 rfl S (i := 2) rfl rfl | exact does_loadBox agg_70 sz_70 rfl S (i := 3) rfl rfl | exact does_loadBox agg_70 sz_70 rfl S (i := 4) rfl rfl) ?_; clear H a; intro a H
                        refine wt_b2 rfl rfl ?_ ?_
                        · skip
                          refine list_call H rfl rfl Try.func38 rfl rfl (ref_CopyUses l A cp _ (hl.now S) hn) ?_; clear H a
                          rintro _ _ a ⟨A8, c8, rfl, S2⟩ H
                          replace S := S.call S2; clear S2
                          refine wpList_nil (And.intro (Or.inr (S.sel [1, 2, 3, 4, 5] rfl rfl)) ?_)
                          refine wt_eff rfl ?_
                          refine list_build' H rfl S sl_63 sz_70 ze_70 rfl rfl rfl rfl rfl rfl rfl rfl rfl ?_; clear H a S; intro A1 _ a hA1 S H
                          refine wpList_nil (And.intro (Or.inr (S.sel [2, 3, 4, 5, 6] rfl rfl)) ?_)
                          refine wt_eff rfl ?_
                          refine list_append H rfl S sl_63 sz_70 ze_70 by_70 rfl rfl (i := 1) rfl rfl rfl (ownM.inS S (i := 0) rfl) (one_vs (six rfl rfl rfl rfl rfl rfl)) (by omega) (by omega) ?_; clear H a S; intro A2 c2 _ a S H
                          replace S := S.recell (i := 1) rfl (ucell_app1 (u := (useMore day (n + (i : Int)) cls)) (six rfl rfl rfl rfl rfl rfl))
                          have e8 : l.length + 1 = (l ++ [(useMore day (n + (i : Int)) cls)]).length := by simp
                          rw [e8] at S H
                          refine wpList_nil (And.intro (Or.inr (S.sel [2, 3, 4, 5, 6] rfl rfl)) ?_)
                          refine wt_eff rfl ?_
                          refine list_call H rfl rfl Try.func40 rfl rfl (chain_Beyond rates pwn ptn pag RA rcp (l ++ [(useMore day (n + (i : Int)) cls)]) _ _ _ (hr.now S) hrn1 (ownM.inS S (i := 1) rfl) (by simp; omega)) ?_; clear H a
                          rintro _ _ a ⟨rfl, S2⟩ H
                          replace S := S.call S2; clear S2
                          refine wpList_nil (And.intro (Or.inr (S.sel [2, 3, 4, 5, 6] rfl rfl)) ?_)
                          refine wt_does H rfl rfl (fun _ S => does_move rfl) ?_; clear H a; intro a H
                          refine wt_does H rfl rfl (fun _ S => does_extract rfl rfl) ?_; clear H a; intro a H
                          refine wt_does H rfl rfl (fun _ S => does_extract rfl rfl) ?_; clear H a; intro a H
                          refine wt_does H rfl rfl (fun _ S => does_assign rfl) ?_; clear H a; intro a H
                          refine wt_does H rfl rfl (fun _ S => does_assign rfl) ?_; clear H a; intro a H
                          refine wt_nil ?_
                          refine hK41 _ _ ?_
                          clear hK41 K41
                          have hl40 : l.length < 40 := by omega
                          have hmb := more_beyond hok hAt hl40 hd1.2 (turns := n + (i : Int)) (by omega) hd1.1 hd2 hd3 hd4
                          replace H := H.keep [1, 3, 5, 13, 15, 17, 18] rfl
                          refine seq_still (fun K42 hK42 => ?_)
                          refine still_does H rfl (does_move rfl) ?_; clear H a; intro a H
                          refine still_does H rfl (does_neq rfl rfl) ?_; clear H a; intro a H
                          refine still_does H rfl (does_move rfl) ?_; clear H a; intro a H
                          apply still_guard (i := 2) (g := 187) (t := 192) (b := false) 5 H rfl rfl (by kernel_rfl) (by kernel_rfl) rfl rfl
                          case h1 =>
                            intro hg3
                            have hq3 := hg3; try simp only [Bool.or_eq_true, Bool.and_eq_true, Bool.not_eq_true', Bool.or_eq_false_iff, Bool.and_eq_false_iff, Bool.not_eq_false', decide_eq_true_eq, decide_eq_false_iff_not, Int.not_lt, Int.not_le] at hq3
                            refine still_yes' H rfl rfl (by assumption) ?_
                            refine still_does H rfl (does_move rfl) ?_; intro a H
                            refine still_yes' H rfl rfl (by assumption) ?_
                            refine still_does H rfl (does_lss rfl rfl) ?_; intro a H
                            refine still_yes' H rfl rfl (by assumption) ?_
                            refine still_does H rfl (does_move rfl) ?_; intro a H
                            refine still_yes' H rfl rfl (by assumption) ?_
                            refine still_does H rfl (does_eql rfl rfl) ?_; intro a H
                            refine still_yes' H rfl rfl (by assumption) ?_
                            refine still_does H rfl (does_neqb Try.underlying4 rfl rfl) ?_; intro a H
                            exact wpStill_nil (H.strip 5 rfl rfl)
                          case k =>
                            clear H a; intro a H
                            refine still_does H rfl (by first | exact does_or rfl rfl rfl | exact does_pick rfl rfl rfl) ?_; clear H a; intro a H
                            refine wpStill_nil (hK42 _ ?_)
                            clear hK42 K42
                            refine cond_ H rfl (fun hc12 => ?_) (fun hc12 => ?_)
                            · skip
                              exfalso
                              have e1 : decide ((beyondO (⟨rates, pwn, ptn, pag⟩ : Part) (l ++ [(useMore day (n + (i : Int)) cls)]) Prod.snd).1 < 0) = decide ((i : Int) = 0) := decide_eq_decide.2 (hmb.2.trans ⟨fun h => by
                                rcases (show i = 0 ∨ i = 1 by omega) with rfl | rfl
                                · rfl
                                · exact absurd h (hdt.2.2.2 (by omega)), fun h => by
                                have h0 : i = 0 := by omega
                                subst h0; simpa using hdt.2.2.1⟩)
                              rw [hmb.1, e1] at hc12; simp at hc12
                            · skip
                              refine wp_skip ?_
                              refine hK39 _ _ ?_
                              replace H := H.keep [1, 3, 5, 13, 15] rfl
                              refine one_still ?_
                              refine still_does H rfl (does_move rfl) ?_; clear H a; intro a H
                              refine still_does H rfl (does_add rfl rfl (by unfold i64ok; omega)) ?_; clear H a; intro a H
                              refine still_does H rfl (does_assign rfl) ?_; clear H a; intro a H
                              refine wpStill_nil ?_
                              exact hK36 (g2 - 1) (i + 1) a _ (by omega) (by omega) (S.sel [3, 4, 5, 6] rfl rfl) (H.keep [15, 1, 3, 5, 13] rfl)
                        · skip
                          refine list_build' H rfl S sl_63 sz_70 ze_70 rfl rfl rfl rfl rfl rfl rfl rfl rfl ?_; clear H a S; intro A3 _ a hA3 S H
                          refine wpList_nil (And.intro (Or.inr (S.sel [1, 2, 3, 4, 5] rfl rfl)) ?_)
                          refine wt_eff rfl ?_
                          refine list_call H rfl rfl Try.func38 rfl rfl (ref_CopyUses l A cp _ (hl.now S) hn) ?_; clear H a
                          rintro _ _ a ⟨A8, c8, rfl, S2⟩ H
                          replace S := S.call S2; clear S2
                          refine wpList_nil (And.intro (Or.inr (S.sel [2, 3, 4, 5, 6] rfl rfl)) ?_)
                          refine wt_eff rfl ?_
                          refine list_append H rfl S sl_63 sz_70 ze_70 by_70 rfl rfl (i := 0) rfl rfl rfl (ownM.inS S (i := 1) rfl) (one_vs (six rfl rfl rfl rfl rfl rfl)) (by omega) (by omega) ?_; clear H a S; intro A4 c4 _ a S H
                          replace S := S.recell (i := 0) rfl (ucell_app1 (u := (useMore day (n + (i : Int)) cls)) (six rfl rfl rfl rfl rfl rfl))
                          have e8 : l.length + 1 = (l ++ [(useMore day (n + (i : Int)) cls)]).length := by simp
                          rw [e8] at S H
                          refine wpList_nil (And.intro (Or.inr (S.sel [2, 3, 4, 5, 6] rfl rfl)) ?_)
                          refine wt_eff rfl ?_
                          refine list_call H rfl rfl Try.func40 rfl rfl (chain_Beyond rates pwn ptn pag RA rcp (l ++ [(useMore day (n + (i : Int)) cls)]) _ _ _ (hr.now S) hrn1 (ownM.inS S (i := 0) rfl) (by simp; omega)) ?_; clear H a
                          rintro _ _ a ⟨rfl, S2⟩ H
                          replace S := S.call S2; clear S2
                          refine wpList_nil (And.intro (Or.inr (S.sel [2, 3, 4, 5, 6] rfl rfl)) ?_)
                          refine wt_does H rfl rfl (fun _ S => does_move rfl) ?_; clear H a; intro a H
                          refine wt_does H rfl rfl (fun _ S => does_extract rfl rfl) ?_; clear H a; intro a H
                          refine wt_does H rfl rfl (fun _ S => does_extract rfl rfl) ?_; clear H a; intro a H
                          refine wt_does H rfl rfl (fun _ S => does_assign rfl) ?_; clear H a; intro a H
                          refine wt_does H rfl rfl (fun _ S => does_assign rfl) ?_; clear H a; intro a H
                          refine wt_nil ?_
                          refine hK41 _ _ ?_
                          clear hK41 K41
                          have hl40 : l.length < 40 := by omega
                          have hmb := more_beyond hok hAt hl40 hd1.2 (turns := n + (i : Int)) (by omega) hd1.1 hd2 hd3 hd4
                          replace H := H.keep [1, 3, 5, 13, 15, 17, 18] rfl
                          refine seq_still (fun K44 hK44 => ?_)
                          refine still_does H rfl (does_move rfl) ?_; clear H a; intro a H
                          refine still_does H rfl (does_neq rfl rfl) ?_; clear H a; intro a H
                          refine still_does H rfl (does_move rfl) ?_; clear H a; intro a H
                          apply still_guard (i := 2) (g := 187) (t := 192) (b := false) 5 H rfl rfl (by kernel_rfl) (by kernel_rfl) rfl rfl
                          case h1 =>
                            intro hg3
                            have hq3 := hg3; try simp only [Bool.or_eq_true, Bool.and_eq_true, Bool.not_eq_true', Bool.or_eq_false_iff, Bool.and_eq_false_iff, Bool.not_eq_false', decide_eq_true_eq, decide_eq_false_iff_not, Int.not_lt, Int.not_le] at hq3
                            refine still_yes' H rfl rfl (by assumption) ?_
                            refine still_does H rfl (does_move rfl) ?_; intro a H
                            refine still_yes' H rfl rfl (by assumption) ?_
                            refine still_does H rfl (does_lss rfl rfl) ?_; intro a H
                            refine still_yes' H rfl rfl (by assumption) ?_
                            refine still_does H rfl (does_move rfl) ?_; intro a H
                            refine still_yes' H rfl rfl (by assumption) ?_
                            refine still_does H rfl (does_eql rfl rfl) ?_; intro a H
                            refine still_yes' H rfl rfl (by assumption) ?_
                            refine still_does H rfl (does_neqb Try.underlying4 rfl rfl) ?_; intro a H
                            exact wpStill_nil (H.strip 5 rfl rfl)
                          case k =>
                            clear H a; intro a H
                            refine still_does H rfl (by first | exact does_or rfl rfl rfl | exact does_pick rfl rfl rfl) ?_; clear H a; intro a H
                            refine wpStill_nil (hK44 _ ?_)
                            clear hK44 K44
                            refine cond_ H rfl (fun hc13 => ?_) (fun hc13 => ?_)
                            · skip
                              exfalso
                              have e1 : decide ((beyondO (⟨rates, pwn, ptn, pag⟩ : Part) (l ++ [(useMore day (n + (i : Int)) cls)]) Prod.snd).1 < 0) = decide ((i : Int) = 0) := decide_eq_decide.2 (hmb.2.trans ⟨fun h => by
                                rcases (show i = 0 ∨ i = 1 by omega) with rfl | rfl
                                · rfl
                                · exact absurd h (hdt.2.2.2 (by omega)), fun h => by
                                have h0 : i = 0 := by omega
                                subst h0; simpa using hdt.2.2.1⟩)
                              rw [hmb.1, e1] at hc13; simp at hc13
                            · skip
                              refine wp_skip ?_
                              refine hK39 _ _ ?_
                              replace H := H.keep [1, 3, 5, 13, 15] rfl
                              refine one_still ?_
                              refine still_does H rfl (does_move rfl) ?_; clear H a; intro a H
                              refine still_does H rfl (does_add rfl rfl (by unfold i64ok; omega)) ?_; clear H a; intro a H
                              refine still_does H rfl (does_assign rfl) ?_; clear H a; intro a H
                              refine wpStill_nil ?_
                              exact hK36 (g2 - 1) (i + 1) a _ (by omega) (by omega) (S.sel [3, 4, 5, 6] rfl rfl) (H.keep [15, 1, 3, 5, 13] rfl)
                      · try simp only [Bool.or_eq_true, Bool.and_eq_true, Bool.not_eq_true', Bool.or_eq_false_iff, Bool.and_eq_false_iff, Bool.not_eq_false', decide_eq_true_eq, decide_eq_false_iff_not, Int.not_lt, Int.not_le] at hc11
                        refine wp_exit ?_
                        refine hK34 _ _ ?_
                        replace H := H.keep [] rfl
                        refine seq_list (fun K46 hK46 => ?_)
                        refine list_call H rfl rfl Try.func18 rfl rfl (law_works _) ?_; clear H a
                        rintro _ _ a ⟨rfl, S2⟩ H
                        replace S := S.call S2; clear S2
                        refine list_does H rfl (does_assign rfl) ?_; clear H a; intro a H
                        refine hK46 _ _ ?_
                        clear hK46 K46
                        refine wp_ret ?_
                        refine ret1 (fn := Try.f10) rfl H rfl ?_
                        exact ⟨rfl, (S.sel [] rfl rfl)⟩

end Go.Proofs.Ytlejjfhgfajoiaa
