/- ChLv. Printed by gen.py. -/
import Derived.Test.YtlejjfhgfajoiaaChPd
namespace Go.Proofs.Ytlejjfhgfajoiaa
open Go.RowKit
set_option linter.unusedVariables false
set_option linter.unusedSimpArgs false


theorem Does.to {P : Program} {L : List (Nat × Value)} {o : Oper} {w : World} {v v' : Value} (h : Does P L o w v) (e : v = v') : Does P L o w v' := e ▸ h


set_option maxRecDepth 100000 in
set_option maxHeartbeats 1000000 in
theorem law_History (rates : List (Int × Int)) (pwn ptn pag : Int) (RA : Option Addr) (rcp : Nat) (l : List Use) (A : Option Addr) (cp : Nat) (ws : List Int) (WA : Option Addr) (wc : Nat) (w : World) (hr : InS w noF 2 RA rates.length (scell rates)) (hrn : rates.length ≤ 9223372036854775807) (hl : InS w noF 6 A l.length (ucell l)) (hn : l.length ≤ 9223372036854775807) (hw : InS w noF 1 WA ws.length (icl ws)) (hwn : ws.length ≤ 9223372036854775807) (hok : PartOk (⟨rates, pwn, ptn, pag⟩ : Part) l) :
    Calls Try.prog 49 [.agg [.slice RA rates.length rcp, .int .i64 pwn, .int .i64 ptn, .int .i64 pag].toArray, .slice A l.length cp, .slice WA ws.length wc].toArray w (Ret (fun v w' => v = .bool (histB (⟨rates, pwn, ptn, pag⟩ : Part) l ws) ∧ St w noF [] w')) := by
  refine enter Try.func49 rfl Try.ntmps49 rfl (fun a H => ?_)
  have S := St.start w
  refine seq_list (fun K1 hK1 => ?_)
  refine list_box H rfl S rfl rfl ?_; clear H a S; intro b3 _ a hb3 hbw3 S H
  refine list_does H rfl (does_assign rfl) ?_; clear H a; intro a H
  refine hK1 _ _ ?_
  clear hK1 K1
  refine wp_seq_k (fun K2 hK2 => ?_)
  replace H := H.keep [1, 2, 3] rfl
  refine seq_still (fun K3 hK3 => ?_)
  refine still_does H rfl (does_move rfl) ?_; clear H a; intro a H
  refine still_does H rfl (does_len sl_29 rfl) ?_; clear H a; intro a H
  refine still_does H rfl (does_move rfl) ?_; clear H a; intro a H
  refine still_does H rfl (does_len sl_63 rfl) ?_; clear H a; intro a H
  refine still_does H rfl (does_neq rfl rfl) ?_; clear H a; intro a H
  refine wpStill_nil (hK3 _ ?_)
  clear hK3 K3
  refine cond_ H rfl (fun hc1 => ?_) (fun hc1 => ?_)
  · try simp only [Bool.or_eq_true, Bool.and_eq_true, Bool.not_eq_true', Bool.or_eq_false_iff, Bool.and_eq_false_iff, Bool.not_eq_false', decide_eq_true_eq, decide_eq_false_iff_not, Int.not_lt, Int.not_le] at hc1
    replace H := H.keep [] rfl
    refine seq_still (fun K4 hK4 => ?_)
    refine still_does H rfl (does_assign rfl) ?_; clear H a; intro a H
    refine wpStill_nil (hK4 _ ?_)
    clear hK4 K4
    refine wp_ret ?_
    refine ret1 (fn := Try.f49) rfl H rfl ?_
    unfold histB; rw [decide_eq_false (by omega)]; exact ⟨rfl, (S.sel [] rfl rfl)⟩
  · try simp only [Bool.or_eq_true, Bool.and_eq_true, Bool.not_eq_true', Bool.or_eq_false_iff, Bool.and_eq_false_iff, Bool.not_eq_false', decide_eq_true_eq, decide_eq_false_iff_not, Int.not_lt, Int.not_le] at hc1
    refine wp_skip ?_
    refine hK2 _ _ ?_
    replace H := H.keep [1, 2, 3] rfl
    refine seq_still (fun K5 hK5 => ?_)
    refine still_does H rfl (does_assign rfl) ?_; clear H a; intro a H
    refine wpStill_nil (hK5 _ ?_)
    clear hK5 K5
    refine wp_seq_k (fun K6 hK6 => ?_)
    replace H := H.keep [1, 2, 3, 7] rfl
    refine seq_still (fun K7 hK7 => ?_)
    refine still_does H rfl (does_assign rfl) ?_; clear H a; intro a H
    refine wpStill_nil (hK7 _ ?_)
    clear hK7 K7
    refine wp_block ?_
    refine loop_st (X := Nat) (R0 := _) [1, 2, 3] H rfl (fun k => [(7, .int .i64 (prevW ws k)), (8, .int .i64 (k : Int))]) (fun k => []) (fun g k => k ≤ l.length ∧ g + k = l.length ∧ ∀ i, i < k → histAt (⟨rates, pwn, ptn, pag⟩ : Part) l ws i = true) (l.length) 0 ?_ (S.sel [0] rfl rfl) (H.keep [7, 8, 1, 2, 3] rfl) ?_
    · exact ⟨by omega, by omega, fun q hq => absurd hq (Nat.not_lt_zero _)⟩
    · intro g1 x1 a w1 hp S H K8 hK8
      obtain ⟨k, rfl⟩ : ∃ y, y = x1 := ⟨_, rfl⟩
      skip
      refine wp_seq_k (fun K9 hK9 => ?_)
      replace H := H.keep [1, 2, 3, 7, 8] rfl
      refine seq_still (fun K10 hK10 => ?_)
      refine still_does H rfl (does_move rfl) ?_; clear H a; intro a H
      refine still_does H rfl (does_move rfl) ?_; clear H a; intro a H
      refine still_does H rfl (does_len sl_63 rfl) ?_; clear H a; intro a H
      refine still_does H rfl (does_lss rfl rfl) ?_; clear H a; intro a H
      refine wpStill_nil (hK10 _ ?_)
      clear hK10 K10
      refine cond_ H rfl (fun hc2 => ?_) (fun hc2 => ?_)
      · try simp only [Bool.or_eq_true, Bool.and_eq_true, Bool.not_eq_true', Bool.or_eq_false_iff, Bool.and_eq_false_iff, Bool.not_eq_false', decide_eq_true_eq, decide_eq_false_iff_not, Int.not_lt, Int.not_le] at hc2
        refine wp_skip ?_
        refine hK9 _ _ ?_
        refine wp_seq_k (fun K11 hK11 => ?_)
        refine wp_block ?_
        have hu := hok.use (k := k) (by omega); unfold useOk at hu; simp only [decide_eq_true_eq] at hu
        have hgb := grown_bd hok (k := k) (by omega)
        have hcls : 0 ≤ (l.getD k Use.zero).cls ∧ (l.getD k Use.zero).cls < rates.length := by
          have : ((⟨rates, pwn, ptn, pag⟩ : Part).rates.length : Int) = rates.length := rfl
          omega
        have hll := hok.len
        have hbb := hist_bd hok k (by omega) hp.2.2
        have hgr : grownS (⟨rates, pwn, ptn, pag⟩ : Part) (l.getD k Use.zero) = ((l.getD k Use.zero).turns * (rates.getD (l.getD k Use.zero).cls.toNat (0, 0)).1, (l.getD k Use.zero).turns * (rates.getD (l.getD k Use.zero).cls.toNat (0, 0)).2) := rfl
        rw [hgr] at hgb
        replace H := H.keep [1, 2, 3, 7, 8] rfl
        replace S := S.drew
        refine seq_wq [(0, true), (1, true), (2, true), (3, true), (4, true), (5, true), (6, true), (7, true), (8, true), (9, false), (10, false)] (by kernel_rfl) (by kernel_rfl) (S.sel [0] rfl rfl) (fun K12 hK12 => ?_)
        refine wq_does H rfl rfl (fun _ S => by first | exact does_field_pt fo_62_0 rfl | exact does_field fo_62_0 rfl) ?_; clear H a; intro a H
        refine wq_does H rfl rfl (fun _ S => does_load one_37 rfl (by first | exact hl.rd S (by omega) (by omega) | exact hw.rd S (by omega) (by omega) | exact boxM.rd S (i := 0) rfl rfl)) ?_; clear H a; intro a H
        refine wq_does H rfl rfl (fun _ S => does_move rfl) ?_; clear H a; intro a H
        refine wq_does H rfl rfl (fun _ S => does_move rfl) ?_; clear H a; intro a H
        refine wq_does H rfl rfl (fun _ S => by first | exact does_indexN sl_63 sz_70 rfl rfl (by first | exact hl.adr (by omega) | exact hr.adr (by omega) | exact hw.adr (by omega)) (by first | omega | omega) | exact does_index sl_63 sz_70 rfl rfl (by first | exact hl.adr (by omega) | exact hr.adr (by omega) | exact hw.adr (by omega)) (by omega) (by first | omega | omega)) ?_; clear H a; intro a H
        refine wq_does H rfl rfl (fun _ S => by first | exact does_field_pt fo_70_2 rfl | exact does_field fo_70_2 rfl) ?_; clear H a; intro a H
        refine wq_does H rfl rfl (fun _ S => does_load one_3 rfl (by first | exact hl.rd S (by omega) (by omega) | exact hw.rd S (by omega) (by omega) | exact boxM.rd S (i := 0) rfl rfl)) ?_; clear H a; intro a H
        refine wq_does H rfl rfl (fun _ S => by first | exact does_indexN sl_37 sz_42 rfl rfl (by first | exact hl.adr (by omega) | exact hr.adr (by omega) | exact hw.adr (by omega)) (by first | omega | omega) | exact does_index sl_37 sz_42 rfl rfl (by first | exact hl.adr (by omega) | exact hr.adr (by omega) | exact hw.adr (by omega)) (by omega) (by first | omega | omega)) ?_; clear H a; intro a H
        refine wq_does H rfl rfl (fun _ S => by first | exact does_loadIn agg_42 sz_42 rfl S hl (by omega) (by omega) | exact does_loadIn agg_42 sz_42 rfl S hr (by omega) (by omega) | exact does_loadBox agg_42 sz_42 rfl S (i := 0) rfl rfl) ?_; clear H a; intro a H
        refine wq_eff rfl ?_
        refine list_alloc H rfl S ze_42 ?_; clear H a S; intro b9 _ a hb9 hbw9 S H
        refine wpList_nil (And.intro (S.sel [1] rfl rfl) ?_)
        refine wq_eff rfl ?_
        first | (refine list_store H S (i := 0) rfl rfl rfl rfl sz_42 rfl rfl ?_) | (refine list_store H S (i := 1) rfl rfl rfl rfl sz_42 rfl rfl ?_) | (refine list_store_own H S (i := 0) rfl rfl rfl (by omega) (by omega) sz_42 rfl ?_) | (refine list_store_own H S (i := 1) rfl rfl rfl (by omega) (by omega) sz_42 rfl ?_)
        clear H a S; intro _ a S H
        refine wpList_nil (And.intro (S.sel [1] rfl rfl) ?_)
        refine wq_nil ?_
        refine hK12 _ _ ?_
        clear hK12 K12
        refine wp_seq_k (fun K13 hK13 => ?_)
        replace H := H.keep [1, 2, 3, 7, 8, 9] rfl
        refine seq_stillD (by kernel_rfl) (by kernel_rfl) (fun K14 hK14 => ?_)
        replace S := S.drew
        refine still_does H rfl (does_move rfl) ?_; clear H a; intro a H
        refine still_does H rfl (does_move rfl) ?_; clear H a; intro a H
        refine still_does H rfl (by first | exact does_indexN sl_29 sz_3 rfl rfl (by first | exact hl.adr (by omega) | exact hr.adr (by omega) | exact hw.adr (by omega)) (by first | omega | omega) | exact does_index sl_29 sz_3 rfl rfl (by first | exact hl.adr (by omega) | exact hr.adr (by omega) | exact hw.adr (by omega)) (by omega) (by first | omega | omega)) ?_; clear H a; intro a H
        refine still_does H rfl (does_load one_3 rfl (by first | exact hl.rd S (by omega) (by omega) | exact hw.rd S (by omega) (by omega) | exact boxM.rd S (i := 0) rfl rfl | exact boxM.rd S (i := 1) rfl rfl)) ?_; clear H a; intro a H
        refine still_does H rfl (does_move rfl) ?_; clear H a; intro a H
        refine still_does H rfl (does_move rfl) ?_; clear H a; intro a H
        refine still_does H rfl (does_move rfl) ?_; clear H a; intro a H
        refine still_does H rfl (by first | exact does_indexN sl_63 sz_70 rfl rfl (by first | exact hl.adr (by omega) | exact hr.adr (by omega) | exact hw.adr (by omega)) (by first | omega | omega) | exact does_index sl_63 sz_70 rfl rfl (by first | exact hl.adr (by omega) | exact hr.adr (by omega) | exact hw.adr (by omega)) (by omega) (by first | omega | omega)) ?_; clear H a; intro a H
        refine still_does H rfl (by first | exact does_field_pt fo_70_1 rfl | exact does_field fo_70_1 rfl) ?_; clear H a; intro a H
        refine still_does H rfl (does_load one_3 rfl (by first | exact hl.rd S (by omega) (by omega) | exact hw.rd S (by omega) (by omega) | exact boxM.rd S (i := 0) rfl rfl | exact boxM.rd S (i := 1) rfl rfl)) ?_; clear H a; intro a H
        refine still_does H rfl (by first | exact does_field_pt fo_42_0 rfl | exact does_field fo_42_0 rfl) ?_; clear H a; intro a H
        refine still_does H rfl (does_load one_3 rfl (by first | exact hl.rd S (by omega) (by omega) | exact hw.rd S (by omega) (by omega) | exact boxM.rd S (i := 0) rfl rfl | exact boxM.rd S (i := 1) rfl rfl)) ?_; clear H a; intro a H
        refine still_does H rfl (does_mul rfl rfl (by unfold i64ok; omega)) ?_; clear H a; intro a H
        refine still_does H rfl (does_add rfl rfl (by unfold i64ok; omega)) ?_; clear H a; intro a H
        refine still_does H rfl (does_lss rfl rfl) ?_; clear H a; intro a H
        refine still_does H rfl (does_move rfl) ?_; clear H a; intro a H
        apply still_guard (i := 15) (g := 45) (t := 60) (b := false) 15 H rfl rfl (by kernel_rfl) (by kernel_rfl) rfl rfl
        case h1 =>
          intro hg16
          have hq16 := hg16; try simp only [Bool.or_eq_true, Bool.and_eq_true, Bool.not_eq_true', Bool.or_eq_false_iff, Bool.and_eq_false_iff, Bool.not_eq_false', decide_eq_true_eq, decide_eq_false_iff_not, Int.not_lt, Int.not_le] at hq16
          refine still_yes' H rfl rfl (by assumption) ?_
          refine still_does H rfl (does_move rfl) ?_; intro a H
          refine still_yes' H rfl rfl (by assumption) ?_
          refine still_does H rfl (does_move rfl) ?_; intro a H
          refine still_yes' H rfl rfl (by assumption) ?_
          refine still_does H rfl (by first | exact does_indexN sl_29 sz_3 rfl rfl (by first | exact hl.adr (by omega) | exact hr.adr (by omega) | exact hw.adr (by omega)) (by first | omega | omega) | exact does_index sl_29 sz_3 rfl rfl (by first | exact hl.adr (by omega) | exact hr.adr (by omega) | exact hw.adr (by omega)) (by omega) (by first | omega | omega)) ?_; intro a H
          refine still_yes' H rfl rfl (by assumption) ?_
          refine still_does H rfl (does_load one_3 rfl (by first | exact hl.rd S (by omega) (by omega) | exact hw.rd S (by omega) (by omega) | exact boxM.rd S (i := 0) rfl rfl | exact boxM.rd S (i := 1) rfl rfl)) ?_; intro a H
          refine still_yes' H rfl rfl (by assumption) ?_
          refine still_does H rfl (does_move rfl) ?_; intro a H
          refine still_yes' H rfl rfl (by assumption) ?_
          refine still_does H rfl (does_move rfl) ?_; intro a H
          refine still_yes' H rfl rfl (by assumption) ?_
          refine still_does H rfl (does_move rfl) ?_; intro a H
          refine still_yes' H rfl rfl (by assumption) ?_
          refine still_does H rfl (by first | exact does_indexN sl_63 sz_70 rfl rfl (by first | exact hl.adr (by omega) | exact hr.adr (by omega) | exact hw.adr (by omega)) (by first | omega | omega) | exact does_index sl_63 sz_70 rfl rfl (by first | exact hl.adr (by omega) | exact hr.adr (by omega) | exact hw.adr (by omega)) (by omega) (by first | omega | omega)) ?_; intro a H
          refine still_yes' H rfl rfl (by assumption) ?_
          refine still_does H rfl (by first | exact does_field_pt fo_70_1 rfl | exact does_field fo_70_1 rfl) ?_; intro a H
          refine still_yes' H rfl rfl (by assumption) ?_
          refine still_does H rfl (does_load one_3 rfl (by first | exact hl.rd S (by omega) (by omega) | exact hw.rd S (by omega) (by omega) | exact boxM.rd S (i := 0) rfl rfl | exact boxM.rd S (i := 1) rfl rfl)) ?_; intro a H
          refine still_yes' H rfl rfl (by assumption) ?_
          refine still_does H rfl (by first | exact does_field_pt fo_42_1 rfl | exact does_field fo_42_1 rfl) ?_; intro a H
          refine still_yes' H rfl rfl (by assumption) ?_
          refine still_does H rfl (does_load one_3 rfl (by first | exact hl.rd S (by omega) (by omega) | exact hw.rd S (by omega) (by omega) | exact boxM.rd S (i := 0) rfl rfl | exact boxM.rd S (i := 1) rfl rfl)) ?_; intro a H
          refine still_yes' H rfl rfl (by assumption) ?_
          refine still_does H rfl (does_mul rfl rfl (by unfold i64ok; omega)) ?_; intro a H
          refine still_yes' H rfl rfl (by assumption) ?_
          refine still_does H rfl (does_add rfl rfl (by unfold i64ok; omega)) ?_; intro a H
          refine still_yes' H rfl rfl (by assumption) ?_
          refine still_does H rfl (does_gtr rfl rfl) ?_; intro a H
          exact wpStill_nil (H.strip 15 rfl rfl)
        case k =>
          clear H a; intro a H
          refine still_does H rfl (by first | exact does_or rfl rfl rfl | exact does_pick rfl rfl rfl) ?_; clear H a; intro a H
          refine wpStill_nil (hK14 _ ?_)
          clear hK14 K14
          refine cond_ H rfl (fun hc3 => ?_) (fun hc3 => ?_)
          · try simp only [Bool.or_eq_true, Bool.and_eq_true, Bool.not_eq_true', Bool.or_eq_false_iff, Bool.and_eq_false_iff, Bool.not_eq_false', decide_eq_true_eq, decide_eq_false_iff_not, Int.not_lt, Int.not_le] at hc3
            replace H := H.keep [] rfl
            refine seq_still (fun K15 hK15 => ?_)
            refine still_does H rfl (does_assign rfl) ?_; clear H a; intro a H
            refine wpStill_nil (hK15 _ ?_)
            clear hK15 K15
            refine wp_ret ?_
            refine ret1 (fn := Try.f49) rfl H rfl ?_
            have hat : histAt (⟨rates, pwn, ptn, pag⟩ : Part) l ws k = false := by
              rw [← Bool.not_eq_true, histAt_iff, hgr]; (try dsimp only); omega
            unfold histB; rw [range_all_false (k := k) (by omega) hat, Bool.and_false]; exact ⟨rfl, (S.sel [] rfl rfl)⟩
          · try simp only [Bool.or_eq_true, Bool.and_eq_true, Bool.not_eq_true', Bool.or_eq_false_iff, Bool.and_eq_false_iff, Bool.not_eq_false', decide_eq_true_eq, decide_eq_false_iff_not, Int.not_lt, Int.not_le] at hc3
            refine wp_skip ?_
            refine hK13 _ _ ?_
            refine wp_seq_k (fun K16 hK16 => ?_)
            replace H := H.keep [1, 2, 3, 8] rfl
            refine seq_stillD (by kernel_rfl) (by kernel_rfl) (fun K17 hK17 => ?_)
            replace S := S.drew
            refine still_does H rfl (does_move rfl) ?_; clear H a; intro a H
            refine still_does H rfl (does_move rfl) ?_; clear H a; intro a H
            refine still_does H rfl (by first | exact does_indexN sl_63 sz_70 rfl rfl (by first | exact hl.adr (by omega) | exact hr.adr (by omega) | exact hw.adr (by omega)) (by first | omega | omega) | exact does_index sl_63 sz_70 rfl rfl (by first | exact hl.adr (by omega) | exact hr.adr (by omega) | exact hw.adr (by omega)) (by omega) (by first | omega | omega)) ?_; clear H a; intro a H
            refine still_does H rfl (by first | exact does_field_pt fo_70_3 rfl | exact does_field fo_70_3 rfl) ?_; clear H a; intro a H
            refine still_does H rfl (does_load one_4 rfl (by first | exact hl.rd S (by omega) (by omega) | exact hw.rd S (by omega) (by omega) | exact boxM.rd S (i := 0) rfl rfl | exact boxM.rd S (i := 1) rfl rfl)) ?_; clear H a; intro a H
            refine still_does H rfl (does_move rfl) ?_; clear H a; intro a H
            apply still_guard (i := 5) (g := 67) (t := 91) (b := true) 24 H rfl rfl (by kernel_rfl) (by kernel_rfl) rfl rfl
            case h1 =>
              intro hg6
              have hq6 := hg6; try simp only [Bool.or_eq_true, Bool.and_eq_true, Bool.not_eq_true', Bool.or_eq_false_iff, Bool.and_eq_false_iff, Bool.not_eq_false', decide_eq_true_eq, decide_eq_false_iff_not, Int.not_lt, Int.not_le] at hq6
              refine still_yes' H rfl rfl (by assumption) ?_
              refine still_does H rfl (does_move rfl) ?_; intro a H
              refine still_yes' H rfl rfl (by assumption) ?_
              refine still_does H rfl (does_move rfl) ?_; intro a H
              refine still_yes' H rfl rfl (by assumption) ?_
              refine still_does H rfl (by first | exact does_indexN sl_29 sz_3 rfl rfl (by first | exact hl.adr (by omega) | exact hr.adr (by omega) | exact hw.adr (by omega)) (by first | omega | omega) | exact does_index sl_29 sz_3 rfl rfl (by first | exact hl.adr (by omega) | exact hr.adr (by omega) | exact hw.adr (by omega)) (by omega) (by first | omega | omega)) ?_; intro a H
              refine still_yes' H rfl rfl (by assumption) ?_
              refine still_does H rfl (does_load one_3 rfl (by first | exact hl.rd S (by omega) (by omega) | exact hw.rd S (by omega) (by omega) | exact boxM.rd S (i := 0) rfl rfl | exact boxM.rd S (i := 1) rfl rfl)) ?_; intro a H
              refine still_yes' H rfl rfl (by assumption) ?_
              refine still_does H rfl (does_move rfl) ?_; intro a H
              refine still_yes' H rfl rfl (by assumption) ?_
              refine still_does H rfl (does_move rfl) ?_; intro a H
              refine still_yes' H rfl rfl (by assumption) ?_
              refine still_does H rfl (by first | exact does_indexN sl_63 sz_70 rfl rfl (by first | exact hl.adr (by omega) | exact hr.adr (by omega) | exact hw.adr (by omega)) (by first | omega | omega) | exact does_index sl_63 sz_70 rfl rfl (by first | exact hl.adr (by omega) | exact hr.adr (by omega) | exact hw.adr (by omega)) (by omega) (by first | omega | omega)) ?_; intro a H
              refine still_yes' H rfl rfl (by assumption) ?_
              refine still_does H rfl (by first | exact does_field_pt fo_70_4 rfl | exact does_field fo_70_4 rfl) ?_; intro a H
              refine still_yes' H rfl rfl (by assumption) ?_
              refine still_does H rfl (by first | exact does_field_pt fo_42_0 rfl | exact does_field fo_42_0 rfl) ?_; intro a H
              refine still_yes' H rfl rfl (by assumption) ?_
              refine still_does H rfl (does_load one_3 rfl (by first | exact hl.rd S (by omega) (by omega) | exact hw.rd S (by omega) (by omega) | exact boxM.rd S (i := 0) rfl rfl | exact boxM.rd S (i := 1) rfl rfl)) ?_; intro a H
              refine still_yes' H rfl rfl (by assumption) ?_
              refine still_does H rfl (does_lss rfl rfl) ?_; intro a H
              refine still_yes' H rfl rfl (by assumption) ?_
              refine still_does H rfl (does_move rfl) ?_; intro a H
              apply still_guard (i := 17) (g := 79) (t := 90) (b := false) 11 H rfl rfl (by kernel_rfl) (by kernel_rfl) rfl rfl
              case h1 =>
                intro hg18
                have hq18 := hg18; try simp only [Bool.or_eq_true, Bool.and_eq_true, Bool.not_eq_true', Bool.or_eq_false_iff, Bool.and_eq_false_iff, Bool.not_eq_false', decide_eq_true_eq, decide_eq_false_iff_not, Int.not_lt, Int.not_le] at hq18
                refine still_yes' H rfl rfl (by assumption) ?_
                refine still_does H rfl (does_move rfl) ?_; intro a H
                refine still_yes' H rfl rfl (by assumption) ?_
                refine still_does H rfl (does_move rfl) ?_; intro a H
                refine still_yes' H rfl rfl (by assumption) ?_
                refine still_does H rfl (by first | exact does_indexN sl_29 sz_3 rfl rfl (by first | exact hl.adr (by omega) | exact hr.adr (by omega) | exact hw.adr (by omega)) (by first | omega | omega) | exact does_index sl_29 sz_3 rfl rfl (by first | exact hl.adr (by omega) | exact hr.adr (by omega) | exact hw.adr (by omega)) (by omega) (by first | omega | omega)) ?_; intro a H
                refine still_yes' H rfl rfl (by assumption) ?_
                refine still_does H rfl (does_load one_3 rfl (by first | exact hl.rd S (by omega) (by omega) | exact hw.rd S (by omega) (by omega) | exact boxM.rd S (i := 0) rfl rfl | exact boxM.rd S (i := 1) rfl rfl)) ?_; intro a H
                refine still_yes' H rfl rfl (by assumption) ?_
                refine still_does H rfl (does_move rfl) ?_; intro a H
                refine still_yes' H rfl rfl (by assumption) ?_
                refine still_does H rfl (does_move rfl) ?_; intro a H
                refine still_yes' H rfl rfl (by assumption) ?_
                refine still_does H rfl (by first | exact does_indexN sl_63 sz_70 rfl rfl (by first | exact hl.adr (by omega) | exact hr.adr (by omega) | exact hw.adr (by omega)) (by first | omega | omega) | exact does_index sl_63 sz_70 rfl rfl (by first | exact hl.adr (by omega) | exact hr.adr (by omega) | exact hw.adr (by omega)) (by omega) (by first | omega | omega)) ?_; intro a H
                refine still_yes' H rfl rfl (by assumption) ?_
                refine still_does H rfl (by first | exact does_field_pt fo_70_4 rfl | exact does_field fo_70_4 rfl) ?_; intro a H
                refine still_yes' H rfl rfl (by assumption) ?_
                refine still_does H rfl (by first | exact does_field_pt fo_42_1 rfl | exact does_field fo_42_1 rfl) ?_; intro a H
                refine still_yes' H rfl rfl (by assumption) ?_
                refine still_does H rfl (does_load one_3 rfl (by first | exact hl.rd S (by omega) (by omega) | exact hw.rd S (by omega) (by omega) | exact boxM.rd S (i := 0) rfl rfl | exact boxM.rd S (i := 1) rfl rfl)) ?_; intro a H
                refine still_yes' H rfl rfl (by assumption) ?_
                refine still_does H rfl (does_gtr rfl rfl) ?_; intro a H
                exact wpStill_nil (H.strip 11 rfl rfl)
              case k =>
                intro a H
                refine still_yes' H rfl rfl (by assumption) ?_
                refine still_does H rfl (by first | exact does_or rfl rfl rfl | exact does_pick rfl rfl rfl) ?_; intro a H
                exact wpStill_nil (H.strip 14 rfl rfl)
            case k =>
              clear H a; intro a H
              refine still_does H rfl (by first | exact does_and rfl rfl rfl | exact does_pick rfl rfl rfl) ?_; clear H a; intro a H
              refine wpStill_nil (hK17 _ ?_)
              clear hK17 K17
              refine cond_ H rfl (fun hc4 => ?_) (fun hc4 => ?_)
              · try simp only [Bool.or_eq_true, Bool.and_eq_true, Bool.not_eq_true', Bool.or_eq_false_iff, Bool.and_eq_false_iff, Bool.not_eq_false', decide_eq_true_eq, decide_eq_false_iff_not, Int.not_lt, Int.not_le] at hc4
                have hat : histAt (⟨rates, pwn, ptn, pag⟩ : Part) l ws k = false := by
                  rw [← Bool.not_eq_true, histAt_iff, hgr]; rintro ⟨_, _, h9⟩; have := h9 hc4.1; omega
                replace H := H.keep [] rfl
                refine seq_still (fun K18 hK18 => ?_)
                refine still_does H rfl (does_assign rfl) ?_; clear H a; intro a H
                refine wpStill_nil (hK18 _ ?_)
                clear hK18 K18
                refine wp_ret ?_
                refine ret1 (fn := Try.f49) rfl H rfl ?_
                unfold histB; rw [range_all_false (k := k) (by omega) hat, Bool.and_false]; exact ⟨rfl, (S.sel [] rfl rfl)⟩
              · try simp only [Bool.or_eq_true, Bool.and_eq_true, Bool.not_eq_true', Bool.or_eq_false_iff, Bool.and_eq_false_iff, Bool.not_eq_false', decide_eq_true_eq, decide_eq_false_iff_not, Int.not_lt, Int.not_le] at hc4
                have hat : histAt (⟨rates, pwn, ptn, pag⟩ : Part) l ws k = true := by
                  rw [histAt_iff, hgr]; refine ⟨by (try dsimp only); omega, by (try dsimp only); omega, fun hm => ?_⟩
                  rcases hc4 with h9 | h9
                  · rw [hm] at h9; cases h9
                  · omega
                refine wp_skip ?_
                refine hK16 _ _ ?_
                replace H := H.keep [1, 2, 3, 8] rfl
                refine one_still ?_
                refine still_does H rfl (does_move rfl) ?_; clear H a; intro a H
                refine still_does H rfl (does_move rfl) ?_; clear H a; intro a H
                refine still_does H rfl (by first | exact does_indexN sl_29 sz_3 rfl rfl (by first | exact hl.adr (by omega) | exact hr.adr (by omega) | exact hw.adr (by omega)) (by first | omega | omega) | exact does_index sl_29 sz_3 rfl rfl (by first | exact hl.adr (by omega) | exact hr.adr (by omega) | exact hw.adr (by omega)) (by omega) (by first | omega | omega)) ?_; clear H a; intro a H
                refine still_does H rfl (does_load one_3 rfl (by first | exact hl.rd S (by omega) (by omega) | exact hw.rd S (by omega) (by omega) | exact boxM.rd S (i := 0) rfl rfl | exact boxM.rd S (i := 1) rfl rfl)) ?_; clear H a; intro a H
                refine still_does H rfl (does_assign rfl) ?_; clear H a; intro a H
                refine wpStill_nil ?_
                refine hK11 _ _ ?_
                replace H := H.keep [1, 2, 3, 7, 8] rfl
                refine one_still ?_
                refine still_does H rfl (does_move rfl) ?_; clear H a; intro a H
                refine still_does H rfl (does_add rfl rfl (by unfold i64ok; omega)) ?_; clear H a; intro a H
                refine still_does H rfl (does_assign rfl) ?_; clear H a; intro a H
                refine wpStill_nil ?_
                exact hK8 (g1 - 1) (k + 1) a _ (by omega) (⟨by omega, by omega, fun q hq => by
                  by_cases h : q = k
                  · subst h; exact hat
                  · exact hp.2.2 q (by omega)⟩) (S.sel [1] rfl rfl) (H.keep [7, 8, 1, 2, 3] rfl)
      · try simp only [Bool.or_eq_true, Bool.and_eq_true, Bool.not_eq_true', Bool.or_eq_false_iff, Bool.and_eq_false_iff, Bool.not_eq_false', decide_eq_true_eq, decide_eq_false_iff_not, Int.not_lt, Int.not_le] at hc2
        refine wp_exit ?_
        refine hK6 _ _ ?_
        replace H := H.keep [] rfl
        refine seq_still (fun K21 hK21 => ?_)
        refine still_does H rfl (does_assign rfl) ?_; clear H a; intro a H
        refine wpStill_nil (hK21 _ ?_)
        clear hK21 K21
        refine wp_ret ?_
        refine ret1 (fn := Try.f49) rfl H rfl ?_
        have hk9 : k = l.length := by omega
        subst hk9
        have e9 : (List.range l.length).all (histAt (⟨rates, pwn, ptn, pag⟩ : Part) l ws) = true := List.all_eq_true.2 fun i hi => hp.2.2 i (List.mem_range.1 hi)
        unfold histB; rw [e9, decide_eq_true (by omega)]; exact ⟨rfl, (S.sel [] rfl rfl)⟩

set_option maxRecDepth 100000 in
set_option maxHeartbeats 1000000 in
theorem law_ChainLives (rates : List (Int × Int)) (RA : Option Addr) (rcp : Nat) (pwn ptn pag : Int) (l : List Use) (A : Option Addr) (cp : Nat) (ws : List Int) (WA : Option Addr) (wc : Nat) (w : World) (hr : InS w noF 2 RA rates.length (scell rates)) (hrn : rates.length * 16 ≤ 140737488351232) (hl : InS w noF 6 A l.length (ucell l)) (hn : l.length * 48 ≤ 140737488351232) (hw : InS w noF 1 WA ws.length (icl ws)) (hwn : ws.length ≤ 9223372036854775807) :
    Calls Try.prog 12 [.agg [.slice RA rates.length rcp, .int .i64 pwn, .int .i64 ptn, .int .i64 pag].toArray, .slice A l.length cp, .slice WA ws.length wc].toArray w (Ret (fun v w' => v = .bool true ∧ St w noF [] w')) := by
  have hrn1 : rates.length ≤ 9223372036854775807 := by omega
  have hn1 : l.length ≤ 9223372036854775807 := by omega
  refine enter Try.func12 rfl Try.ntmps12 rfl (fun a H => ?_)
  have S := St.start w
  refine seq_list (fun K1 hK1 => ?_)
  refine list_box H rfl S rfl rfl ?_; clear H a S; intro b3 _ a hb3 hbw3 S H
  refine list_does H rfl (does_assign rfl) ?_; clear H a; intro a H
  refine hK1 _ _ ?_
  clear hK1 K1
  refine wp_seq_k (fun K2 hK2 => ?_)
  replace H := H.keep [1, 2, 3] rfl
  refine seq_list (fun K3 hK3 => ?_)
  refine list_does H rfl (by first | exact does_loadBox agg_62 sz_62 rfl S (i := 0) rfl rfl) ?_; clear H a; intro a H
  refine list_does H rfl (does_move rfl) ?_; clear H a; intro a H
  refine list_call H rfl rfl Try.func36 rfl rfl (ref_CheckPart rates pwn ptn pag RA rcp l A cp _ (hr.now S) hrn1 (hl.now S) hn1) ?_; clear H a
  rintro _ _ a ⟨rfl, S2⟩ H
  replace S := S.call S2; clear S2
  refine list_does H rfl (does_neq rfl rfl) ?_; clear H a; intro a H
  refine list_does H rfl (does_move rfl) ?_; clear H a; intro a H
  cases hg5 : (!decide (checkP (⟨rates, pwn, ptn, pag⟩ : Part) l = 0))
  case false =>
    rw [hg5] at H
    refine list_yes H rfl rfl ?_
    refine list_does H rfl (by first | exact does_loadBox agg_62 sz_62 rfl S (i := 0) rfl rfl) ?_; clear H a; intro a H
    refine list_yes H rfl rfl ?_
    refine list_does H rfl (does_move rfl) ?_; clear H a; intro a H
    refine list_yes H rfl rfl ?_
    refine list_does H rfl (does_move rfl) ?_; clear H a; intro a H
    refine list_yes H rfl rfl ?_
    refine list_call H rfl rfl Try.func49 rfl rfl (law_History rates pwn ptn pag RA rcp l A cp ws WA wc _ (hr.now S) hrn1 (hl.now S) hn1 (hw.now S) hwn (checkP_ok (by simpa using hg5))) ?_; clear H a
    rintro _ _ a ⟨rfl, S2⟩ H
    replace S := S.call S2; clear S2
    refine list_yes H rfl rfl ?_
    refine list_does H rfl (does_not rfl) ?_; clear H a; intro a H
    refine list_does H rfl (by first | exact does_or rfl rfl rfl | exact does_pick rfl rfl rfl) ?_; clear H a; intro a H
    refine hK3 _ _ ?_
    clear hK3 K3
    refine cond_ H rfl (fun hc1 => ?_) (fun hc1 => ?_)
    · try simp only [Bool.or_eq_true, Bool.and_eq_true, Bool.not_eq_true', Bool.or_eq_false_iff, Bool.and_eq_false_iff, Bool.not_eq_false', decide_eq_true_eq, decide_eq_false_iff_not, Int.not_lt, Int.not_le] at hc1
      replace H := H.keep [] rfl
      refine seq_list (fun K4 hK4 => ?_)
      refine list_call H rfl rfl Try.func18 rfl rfl (law_works _) ?_; clear H a
      rintro _ _ a ⟨rfl, S2⟩ H
      replace S := S.call S2; clear S2
      refine list_does H rfl (does_assign rfl) ?_; clear H a; intro a H
      refine hK4 _ _ ?_
      clear hK4 K4
      refine wp_ret ?_
      refine ret1 (fn := Try.f12) rfl H rfl ?_
      exact ⟨rfl, (S.sel [] rfl rfl)⟩
    · try simp only [Bool.or_eq_true, Bool.and_eq_true, Bool.not_eq_true', Bool.or_eq_false_iff, Bool.and_eq_false_iff, Bool.not_eq_false', decide_eq_true_eq, decide_eq_false_iff_not, Int.not_lt, Int.not_le] at hc1
      refine wp_skip ?_
      refine hK2 _ _ ?_
      have h0 : checkP (⟨rates, pwn, ptn, pag⟩ : Part) l = 0 := by simpa using hg5
      have hok := checkP_ok h0
      have hh : histB (⟨rates, pwn, ptn, pag⟩ : Part) l ws = true := by simpa using hc1
      have hh1 := histB_at hh
      have hAt := hist_at hh1.2
      have hA := wearE_ok h0 hAt
      have hlv := lives hok hh1.2
      replace H := H.keep [1, 2, 3] rfl
      refine seq_list (fun K5 hK5 => ?_)
      refine list_does H rfl (by first | exact does_loadBox agg_62 sz_62 rfl S (i := 0) rfl rfl) ?_; clear H a; intro a H
      refine list_does H rfl (does_move rfl) ?_; clear H a; intro a H
      refine list_call H rfl rfl Try.func37 rfl rfl (ret_imp (chain_Wear rates pwn ptn pag RA rcp l A cp _ (hr.now S) hrn1 (hl.now S) hn1) (fun _ _ => wearR_yes hA)) ?_; clear H a
      rintro _ _ a ⟨A5, c5, rfl, S2⟩ H
      replace S := S.call S2; clear S2
      refine list_does H rfl (does_move rfl) ?_; clear H a; intro a H
      refine list_does H rfl (does_extract rfl rfl) ?_; clear H a; intro a H
      refine list_does H rfl (does_extract rfl rfl) ?_; clear H a; intro a H
      refine list_does H rfl (does_assign rfl) ?_; clear H a; intro a H
      refine list_does H rfl (does_assign rfl) ?_; clear H a; intro a H
      refine hK5 _ _ ?_
      clear hK5 K5
      replace H := H.keep [1, 2, 3, 7, 8] rfl
      refine seq_list (fun K6 hK6 => ?_)
      refine list_does H rfl (by first | exact does_loadBox agg_62 sz_62 rfl S (i := 0) rfl rfl | exact does_loadBox agg_62 sz_62 rfl S (i := 1) rfl rfl) ?_; clear H a; intro a H
      refine list_does H rfl (does_move rfl) ?_; clear H a; intro a H
      refine list_call H rfl rfl Try.func44 rfl rfl (chain_Refuted rates pwn ptn pag RA rcp l A cp _ (hr.now S) hrn1 (hl.now S) hn1) ?_; clear H a
      rintro _ _ a ⟨rfl, S2⟩ H
      replace S := S.call S2; clear S2
      rw [ref_ok h0 hAt] at H
      refine list_does H rfl (does_move rfl) ?_; clear H a; intro a H
      refine list_does H rfl (does_extract rfl rfl) ?_; clear H a; intro a H
      refine list_does H rfl (does_extract rfl rfl) ?_; clear H a; intro a H
      refine list_does H rfl (does_extract rfl rfl) ?_; clear H a; intro a H
      refine list_does H rfl (does_assign rfl) ?_; clear H a; intro a H
      refine list_does H rfl (does_assign rfl) ?_; clear H a; intro a H
      refine list_does H rfl (does_assign rfl) ?_; clear H a; intro a H
      refine hK6 _ _ ?_
      clear hK6 K6
      replace H := H.keep [1, 2, 3, 7, 8, 10, 11] rfl
      refine seq_list (fun K7 hK7 => ?_)
      refine list_does H rfl (by first | exact does_loadBox agg_62 sz_62 rfl S (i := 0) rfl rfl | exact does_loadBox agg_62 sz_62 rfl S (i := 1) rfl rfl) ?_; clear H a; intro a H
      refine list_does H rfl (does_move rfl) ?_; clear H a; intro a H
      refine list_call H rfl rfl Try.func40 rfl rfl (chain_Beyond rates pwn ptn pag RA rcp l A cp _ (hr.now S) hrn1 (hl.now S) hn1) ?_; clear H a
      rintro _ _ a ⟨rfl, S2⟩ H
      replace S := S.call S2; clear S2
      rw [by_ok _ hA] at H
      refine list_does H rfl (does_move rfl) ?_; clear H a; intro a H
      refine list_does H rfl (does_extract rfl rfl) ?_; clear H a; intro a H
      refine list_does H rfl (does_extract rfl rfl) ?_; clear H a; intro a H
      refine list_does H rfl (does_assign rfl) ?_; clear H a; intro a H
      refine list_does H rfl (does_assign rfl) ?_; clear H a; intro a H
      refine hK7 _ _ ?_
      clear hK7 K7
      replace H := H.keep [1, 2, 3, 7, 8, 10, 11, 12, 13] rfl
      refine seq_list (fun K8 hK8 => ?_)
      refine list_does H rfl (by first | exact does_loadBox agg_62 sz_62 rfl S (i := 0) rfl rfl | exact does_loadBox agg_62 sz_62 rfl S (i := 1) rfl rfl) ?_; clear H a; intro a H
      refine list_does H rfl (does_move rfl) ?_; clear H a; intro a H
      refine list_call H rfl rfl Try.func47 rfl rfl (chain_Surely rates pwn ptn pag RA rcp l A cp _ (hr.now S) hrn1 (hl.now S) hn1) ?_; clear H a
      rintro _ _ a ⟨rfl, S2⟩ H
      replace S := S.call S2; clear S2
      rw [by_ok _ hA] at H
      refine list_does H rfl (does_move rfl) ?_; clear H a; intro a H
      refine list_does H rfl (does_extract rfl rfl) ?_; clear H a; intro a H
      refine list_does H rfl (does_extract rfl rfl) ?_; clear H a; intro a H
      refine list_does H rfl (does_assign rfl) ?_; clear H a; intro a H
      refine list_does H rfl (does_assign rfl) ?_; clear H a; intro a H
      refine hK8 _ _ ?_
      clear hK8 K8
      refine wp_seq_k (fun K9 hK9 => ?_)
      generalize hmay : firstO (fun k => wornB (⟨rates, pwn, ptn, pag⟩ : Part) l k (Prod.snd (wearAt (⟨rates, pwn, ptn, pag⟩ : Part) l k))) l.length = may at H hlv
      generalize hmust : firstO (fun k => wornB (⟨rates, pwn, ptn, pag⟩ : Part) l k (Prod.fst (wearAt (⟨rates, pwn, ptn, pag⟩ : Part) l k))) l.length = must at H hlv
      have hlo := hlv.order
      replace H := H.keep [1, 2, 3, 7, 8, 10, 11, 12, 13, 14, 15] rfl
      refine seq_still (fun K10 hK10 => ?_)
      refine still_does H rfl (does_move rfl) ?_; clear H a; intro a H
      refine still_does H rfl (does_neq rfl rfl) ?_; clear H a; intro a H
      refine still_does H rfl (does_move rfl) ?_; clear H a; intro a H
      apply still_guard (i := 2) (g := 57) (t := 59) (b := false) 2 H rfl rfl (by kernel_rfl) (by kernel_rfl) rfl rfl
      case h1 =>
        intro hg3
        refine still_yes' H rfl rfl (by assumption) ?_
        refine still_does H rfl (does_move rfl) ?_; intro a H
        refine still_yes' H rfl rfl (by assumption) ?_
        refine still_does H rfl (does_neq rfl rfl) ?_; intro a H
        exact wpStill_nil (H.strip 2 rfl rfl)
      case k =>
        clear H a; intro a H
        refine still_does H rfl (by first | exact does_or rfl rfl rfl | exact does_pick rfl rfl rfl) ?_; clear H a; intro a H
        refine still_does H rfl (does_move rfl) ?_; clear H a; intro a H
        apply still_guard (i := 6) (g := 61) (t := 63) (b := false) 2 H rfl rfl (by kernel_rfl) (by kernel_rfl) rfl rfl
        case h1 =>
          intro hg7
          refine still_yes' H rfl rfl (by assumption) ?_
          refine still_does H rfl (does_move rfl) ?_; intro a H
          refine still_yes' H rfl rfl (by assumption) ?_
          refine still_does H rfl (does_neq rfl rfl) ?_; intro a H
          exact wpStill_nil (H.strip 2 rfl rfl)
        case k =>
          clear H a; intro a H
          refine still_does H rfl (by first | exact does_or rfl rfl rfl | exact does_pick rfl rfl rfl) ?_; clear H a; intro a H
          refine still_does H rfl (does_move rfl) ?_; clear H a; intro a H
          apply still_guard (i := 10) (g := 65) (t := 67) (b := false) 2 H rfl rfl (by kernel_rfl) (by kernel_rfl) rfl rfl
          case h1 =>
            intro hg11
            refine still_yes' H rfl rfl (by assumption) ?_
            refine still_does H rfl (does_move rfl) ?_; intro a H
            refine still_yes' H rfl rfl (by assumption) ?_
            refine still_does H rfl (does_neq rfl rfl) ?_; intro a H
            exact wpStill_nil (H.strip 2 rfl rfl)
          case k =>
            clear H a; intro a H
            refine still_does H rfl (by first | exact does_or rfl rfl rfl | exact does_pick rfl rfl rfl) ?_; clear H a; intro a H
            refine still_does H rfl (does_move rfl) ?_; clear H a; intro a H
            apply still_guard (i := 14) (g := 69) (t := 70) (b := false) 1 H rfl rfl (by kernel_rfl) (by kernel_rfl) rfl rfl
            case h1 =>
              intro hg15
              refine still_yes' H rfl rfl (by assumption) ?_
              refine still_does H rfl (does_move rfl) ?_; intro a H
              exact wpStill_nil (H.strip 1 rfl rfl)
            case k =>
              clear H a; intro a H
              refine still_does H rfl (by first | exact does_or rfl rfl rfl | exact does_pick rfl rfl rfl) ?_; clear H a; intro a H
              refine still_does H rfl (does_move rfl) ?_; clear H a; intro a H
              apply still_guard (i := 17) (g := 72) (t := 77) (b := false) 5 H rfl rfl (by kernel_rfl) (by kernel_rfl) rfl rfl
              case h1 =>
                intro hg18
                refine still_yes' H rfl rfl (by assumption) ?_
                refine still_does H rfl (does_move rfl) ?_; intro a H
                refine still_yes' H rfl rfl (by assumption) ?_
                refine still_does H rfl (does_len sl_37 rfl) ?_; intro a H
                refine still_yes' H rfl rfl (by assumption) ?_
                refine still_does H rfl (does_move rfl) ?_; intro a H
                refine still_yes' H rfl rfl (by assumption) ?_
                refine still_does H rfl (does_len sl_63 rfl) ?_; intro a H
                refine still_yes' H rfl rfl (by assumption) ?_
                refine still_does H rfl (does_neq rfl rfl) ?_; intro a H
                exact wpStill_nil (H.strip 5 rfl rfl)
              case k =>
                clear H a; intro a H
                refine still_does H rfl (by first | exact does_or rfl rfl rfl | exact does_pick rfl rfl rfl) ?_; clear H a; intro a H
                refine still_does H rfl (does_move rfl) ?_; clear H a; intro a H
                apply still_guard (i := 24) (g := 79) (t := 90) (b := false) 11 H rfl rfl (by kernel_rfl) (by kernel_rfl) rfl rfl
                case h1 =>
                  intro hg25
                  refine still_yes' H rfl rfl (by assumption) ?_
                  refine still_does H rfl (does_move rfl) ?_; intro a H
                  refine still_yes' H rfl rfl (by assumption) ?_
                  refine still_does H rfl (does_geq rfl rfl) ?_; intro a H
                  refine still_yes' H rfl rfl (by assumption) ?_
                  refine still_does H rfl (does_move rfl) ?_; intro a H
                  apply still_guard (i := 27) (g := 82) (t := 89) (b := true) 7 H rfl rfl (by kernel_rfl) (by kernel_rfl) rfl rfl
                  case h1 =>
                    intro hg28
                    refine still_yes' H rfl rfl (by assumption) ?_
                    refine still_does H rfl (does_move rfl) ?_; intro a H
                    refine still_yes' H rfl rfl (by assumption) ?_
                    refine still_does H rfl (does_lss rfl rfl) ?_; intro a H
                    refine still_yes' H rfl rfl (by assumption) ?_
                    refine still_does H rfl (does_move rfl) ?_; intro a H
                    apply still_guard (i := 30) (g := 85) (t := 88) (b := false) 3 H rfl rfl (by kernel_rfl) (by kernel_rfl) rfl rfl
                    case h1 =>
                      intro hg31
                      refine still_yes' H rfl rfl (by assumption) ?_
                      refine still_does H rfl (does_move rfl) ?_; intro a H
                      refine still_yes' H rfl rfl (by assumption) ?_
                      refine still_does H rfl (does_move rfl) ?_; intro a H
                      refine still_yes' H rfl rfl (by assumption) ?_
                      refine still_does H rfl (does_gtr rfl rfl) ?_; intro a H
                      exact wpStill_nil (H.strip 3 rfl rfl)
                    case k =>
                      intro a H
                      refine still_yes' H rfl rfl (by assumption) ?_
                      refine still_does H rfl (by first | exact does_or rfl rfl rfl | exact does_pick rfl rfl rfl) ?_; intro a H
                      exact wpStill_nil (H.strip 5 rfl rfl)
                  case k =>
                    intro a H
                    refine still_yes' H rfl rfl (by assumption) ?_
                    refine still_does H rfl (by first | exact does_and rfl rfl rfl | exact does_pick rfl rfl rfl) ?_; intro a H
                    exact wpStill_nil (H.strip 5 rfl rfl)
                case k =>
                  clear H a; intro a H
                  refine still_does H rfl (by first | exact does_or rfl rfl rfl | exact does_pick rfl rfl rfl) ?_; clear H a; intro a H
                  refine wpStill_nil (hK10 _ ?_)
                  clear hK10 K10
                  refine cond_ H rfl (fun hc2 => ?_) (fun hc2 => ?_)
                  · try simp only [Bool.or_eq_true, Bool.and_eq_true, Bool.not_eq_true', Bool.or_eq_false_iff, Bool.and_eq_false_iff, Bool.not_eq_false', decide_eq_true_eq, decide_eq_false_iff_not, Int.not_lt, Int.not_le] at hc2
                    exfalso; (try dsimp only at hc2); simp at hc2; omega
                  · try simp only [Bool.or_eq_true, Bool.and_eq_true, Bool.not_eq_true', Bool.or_eq_false_iff, Bool.and_eq_false_iff, Bool.not_eq_false', decide_eq_true_eq, decide_eq_false_iff_not, Int.not_lt, Int.not_le] at hc2
                    refine wp_skip ?_
                    refine hK9 _ _ ?_
                    refine wp_seq_k (fun K11 hK11 => ?_)
                    replace H := H.keep [1, 2, 3, 7, 12, 14] rfl
                    refine seq_still (fun K12 hK12 => ?_)
                    refine still_does H rfl (does_assign rfl) ?_; clear H a; intro a H
                    refine wpStill_nil (hK12 _ ?_)
                    clear hK12 K12
                    refine wp_block ?_
                    refine loop_st (X := Nat) (R0 := _) [1, 2, 3, 7, 12, 14] H rfl (fun k => [(16, .int .i64 (k : Int))]) (fun k => []) (fun g k => k ≤ l.length ∧ g + k = l.length) (l.length) 0 ?_ (S.sel [0, 1] rfl rfl) (H.keep [16, 1, 2, 3, 7, 12, 14] rfl) ?_
                    · exact ⟨by omega, by omega⟩
                    · intro g1 x1 a w1 hp S H K13 hK13
                      obtain ⟨k, rfl⟩ : ∃ y, y = x1 := ⟨_, rfl⟩
                      skip
                      refine wp_seq_k (fun K14 hK14 => ?_)
                      replace H := H.keep [1, 2, 3, 7, 12, 14, 16] rfl
                      refine seq_still (fun K15 hK15 => ?_)
                      refine still_does H rfl (does_move rfl) ?_; clear H a; intro a H
                      refine still_does H rfl (does_move rfl) ?_; clear H a; intro a H
                      refine still_does H rfl (does_len sl_63 rfl) ?_; clear H a; intro a H
                      refine still_does H rfl (does_lss rfl rfl) ?_; clear H a; intro a H
                      refine wpStill_nil (hK15 _ ?_)
                      clear hK15 K15
                      refine cond_ H rfl (fun hc3 => ?_) (fun hc3 => ?_)
                      · try simp only [Bool.or_eq_true, Bool.and_eq_true, Bool.not_eq_true', Bool.or_eq_false_iff, Bool.and_eq_false_iff, Bool.not_eq_false', decide_eq_true_eq, decide_eq_false_iff_not, Int.not_lt, Int.not_le] at hc3
                        refine wp_skip ?_
                        refine hK14 _ _ ?_
                        refine wp_seq_k (fun K16 hK16 => ?_)
                        refine wp_block ?_
                        refine wp_seq_k (fun K17 hK17 => ?_)
                        have hwa := hist_wear hh1.2 (show k < l.length by omega)
                        replace H := H.keep [1, 2, 3, 7, 12, 14, 16] rfl
                        refine seq_stillD (by kernel_rfl) (by kernel_rfl) (fun K18 hK18 => ?_)
                        replace S := S.drew
                        refine still_does H rfl (does_move rfl) ?_; clear H a; intro a H
                        refine still_does H rfl (does_move rfl) ?_; clear H a; intro a H
                        refine still_does H rfl (by first | exact does_indexN sl_29 sz_3 rfl rfl (by first | exact hw.adr (by omega) | exact ownM.adr S (i := 0) rfl (by omega)) (by first | omega | omega) | exact does_index sl_29 sz_3 rfl rfl (by first | exact hw.adr (by omega) | exact ownM.adr S (i := 0) rfl (by omega)) (by omega) (by first | omega | omega)) ?_; clear H a; intro a H
                        refine still_does H rfl (does_load one_3 rfl (by first | exact hw.rd S (by omega) (by omega) | exact ownM.rd S (i := 0) rfl (by omega) (by omega) | exact boxM.rd S (i := 0) rfl rfl | exact boxM.rd S (i := 1) rfl rfl)) ?_; clear H a; intro a H
                        refine still_does H rfl (does_move rfl) ?_; clear H a; intro a H
                        refine still_does H rfl (does_move rfl) ?_; clear H a; intro a H
                        refine still_does H rfl (by first | exact does_indexN sl_37 sz_42 rfl rfl (by first | exact hw.adr (by omega) | exact ownM.adr S (i := 0) rfl (by omega)) (by first | omega | omega) | exact does_index sl_37 sz_42 rfl rfl (by first | exact hw.adr (by omega) | exact ownM.adr S (i := 0) rfl (by omega)) (by omega) (by first | omega | omega)) ?_; clear H a; intro a H
                        refine still_does H rfl (by first | exact does_field_pt fo_42_0 rfl | exact does_field fo_42_0 rfl) ?_; clear H a; intro a H
                        refine still_does H rfl (does_load one_3 rfl (by first | exact hw.rd S (by omega) (by omega) | exact ownM.rd S (i := 0) rfl (by omega) (by omega) | exact boxM.rd S (i := 0) rfl rfl | exact boxM.rd S (i := 1) rfl rfl)) ?_; clear H a; intro a H
                        refine still_does H rfl (does_lss rfl rfl) ?_; clear H a; intro a H
                        refine still_does H rfl (does_move rfl) ?_; clear H a; intro a H
                        apply still_guard (i := 10) (g := 108) (t := 118) (b := false) 10 H rfl rfl (by kernel_rfl) (by kernel_rfl) rfl rfl
                        case h1 =>
                          intro hg11
                          refine still_yes' H rfl rfl (by assumption) ?_
                          refine still_does H rfl (does_move rfl) ?_; intro a H
                          refine still_yes' H rfl rfl (by assumption) ?_
                          refine still_does H rfl (does_move rfl) ?_; intro a H
                          refine still_yes' H rfl rfl (by assumption) ?_
                          refine still_does H rfl (by first | exact does_indexN sl_29 sz_3 rfl rfl (by first | exact hw.adr (by omega) | exact ownM.adr S (i := 0) rfl (by omega)) (by first | omega | omega) | exact does_index sl_29 sz_3 rfl rfl (by first | exact hw.adr (by omega) | exact ownM.adr S (i := 0) rfl (by omega)) (by omega) (by first | omega | omega)) ?_; intro a H
                          refine still_yes' H rfl rfl (by assumption) ?_
                          refine still_does H rfl (does_load one_3 rfl (by first | exact hw.rd S (by omega) (by omega) | exact ownM.rd S (i := 0) rfl (by omega) (by omega) | exact boxM.rd S (i := 0) rfl rfl | exact boxM.rd S (i := 1) rfl rfl)) ?_; intro a H
                          refine still_yes' H rfl rfl (by assumption) ?_
                          refine still_does H rfl (does_move rfl) ?_; intro a H
                          refine still_yes' H rfl rfl (by assumption) ?_
                          refine still_does H rfl (does_move rfl) ?_; intro a H
                          refine still_yes' H rfl rfl (by assumption) ?_
                          refine still_does H rfl (by first | exact does_indexN sl_37 sz_42 rfl rfl (by first | exact hw.adr (by omega) | exact ownM.adr S (i := 0) rfl (by omega)) (by first | omega | omega) | exact does_index sl_37 sz_42 rfl rfl (by first | exact hw.adr (by omega) | exact ownM.adr S (i := 0) rfl (by omega)) (by omega) (by first | omega | omega)) ?_; intro a H
                          refine still_yes' H rfl rfl (by assumption) ?_
                          refine still_does H rfl (by first | exact does_field_pt fo_42_1 rfl | exact does_field fo_42_1 rfl) ?_; intro a H
                          refine still_yes' H rfl rfl (by assumption) ?_
                          refine still_does H rfl (does_load one_3 rfl (by first | exact hw.rd S (by omega) (by omega) | exact ownM.rd S (i := 0) rfl (by omega) (by omega) | exact boxM.rd S (i := 0) rfl rfl | exact boxM.rd S (i := 1) rfl rfl)) ?_; intro a H
                          refine still_yes' H rfl rfl (by assumption) ?_
                          refine still_does H rfl (does_gtr rfl rfl) ?_; intro a H
                          exact wpStill_nil (H.strip 10 rfl rfl)
                        case k =>
                          clear H a; intro a H
                          refine still_does H rfl (by first | exact does_or rfl rfl rfl | exact does_pick rfl rfl rfl) ?_; clear H a; intro a H
                          refine wpStill_nil (hK18 _ ?_)
                          clear hK18 K18
                          refine cond_ H rfl (fun hc4 => ?_) (fun hc4 => ?_)
                          · try simp only [Bool.or_eq_true, Bool.and_eq_true, Bool.not_eq_true', Bool.or_eq_false_iff, Bool.and_eq_false_iff, Bool.not_eq_false', decide_eq_true_eq, decide_eq_false_iff_not, Int.not_lt, Int.not_le] at hc4
                            exfalso; omega
                          · try simp only [Bool.or_eq_true, Bool.and_eq_true, Bool.not_eq_true', Bool.or_eq_false_iff, Bool.and_eq_false_iff, Bool.not_eq_false', decide_eq_true_eq, decide_eq_false_iff_not, Int.not_lt, Int.not_le] at hc4
                            refine wp_skip ?_
                            refine hK17 _ _ ?_
                            have hlo2 := hlv.out k (by omega); have hlo3 := hlv.not k (by omega)
                            replace H := H.keep [1, 2, 3, 7, 12, 14, 16] rfl
                            replace S := S.drew
                            refine seq_wq [(0, true), (1, true), (2, true), (3, true), (4, true), (5, true), (6, true), (7, false), (8, true)] (by kernel_rfl) (by kernel_rfl) (S.sel [0, 1] rfl rfl) (fun K19 hK19 => ?_)
                            refine wq_does H rfl rfl (fun _ S => by first | exact does_loadBox agg_62 sz_62 rfl S (i := 0) rfl rfl | exact does_loadBox agg_62 sz_62 rfl S (i := 1) rfl rfl) ?_; clear H a; intro a H
                            refine wq_does H rfl rfl (fun _ S => does_move rfl) ?_; clear H a; intro a H
                            refine wq_does H rfl rfl (fun _ S => does_move rfl) ?_; clear H a; intro a H
                            refine wq_does H rfl rfl (fun _ S => does_move rfl) ?_; clear H a; intro a H
                            refine wq_does H rfl rfl (fun _ S => does_move rfl) ?_; clear H a; intro a H
                            refine wq_does H rfl rfl (fun _ S => by first | exact does_indexN sl_29 sz_3 rfl rfl (by first | exact hw.adr (by omega) | exact ownM.adr S (i := 0) rfl (by omega)) (by first | omega | omega) | exact does_index sl_29 sz_3 rfl rfl (by first | exact hw.adr (by omega) | exact ownM.adr S (i := 0) rfl (by omega)) (by omega) (by first | omega | omega)) ?_; clear H a; intro a H
                            refine wq_does H rfl rfl (fun _ S => does_load one_3 rfl (by first | exact hw.rd S (by omega) (by omega) | exact ownM.rd S (i := 0) rfl (by omega) (by omega) | exact boxM.rd S (i := 0) rfl rfl | exact boxM.rd S (i := 1) rfl rfl)) ?_; clear H a; intro a H
                            refine wq_eff rfl ?_
                            refine list_call H rfl rfl Try.func50 rfl rfl (ref_Worn rates pwn ptn pag RA rcp l A cp _ (hr.now S) hrn1 (hl.now S) hn1 hok k _ (by omega)) ?_; clear H a
                            rintro _ _ a ⟨rfl, S2⟩ H
                            replace S := S.call S2; clear S2
                            refine wpList_nil (And.intro (S.sel [0, 1] rfl rfl) ?_)
                            refine wq_does H rfl rfl (fun _ S => does_assign rfl) ?_; clear H a; intro a H
                            refine wq_nil ?_
                            refine hK19 _ _ ?_
                            clear hK19 K19
                            replace H := H.keep [1, 2, 3, 7, 12, 14, 16, 17] rfl
                            refine seq_still (fun K20 hK20 => ?_)
                            refine still_does H rfl (does_move rfl) ?_; clear H a; intro a H
                            refine still_does H rfl (does_move rfl) ?_; clear H a; intro a H
                            apply still_guard (i := 1) (g := 129) (t := 136) (b := true) 7 H rfl rfl (by kernel_rfl) (by kernel_rfl) rfl rfl
                            case h1 =>
                              intro hg2
                              refine still_yes' H rfl rfl (by assumption) ?_
                              refine still_does H rfl (does_move rfl) ?_; intro a H
                              refine still_yes' H rfl rfl (by assumption) ?_
                              refine still_does H rfl (does_lss rfl rfl) ?_; intro a H
                              refine still_yes' H rfl rfl (by assumption) ?_
                              refine still_does H rfl (does_move rfl) ?_; intro a H
                              apply still_guard (i := 4) (g := 132) (t := 135) (b := false) 3 H rfl rfl (by kernel_rfl) (by kernel_rfl) rfl rfl
                              case h1 =>
                                intro hg5
                                refine still_yes' H rfl rfl (by assumption) ?_
                                refine still_does H rfl (does_move rfl) ?_; intro a H
                                refine still_yes' H rfl rfl (by assumption) ?_
                                refine still_does H rfl (does_move rfl) ?_; intro a H
                                refine still_yes' H rfl rfl (by assumption) ?_
                                refine still_does H rfl (does_lss rfl rfl) ?_; intro a H
                                exact wpStill_nil (H.strip 3 rfl rfl)
                              case k =>
                                intro a H
                                refine still_yes' H rfl rfl (by assumption) ?_
                                refine still_does H rfl (by first | exact does_or rfl rfl rfl | exact does_pick rfl rfl rfl) ?_; intro a H
                                exact wpStill_nil (H.strip 5 rfl rfl)
                            case k =>
                              clear H a; intro a H
                              refine still_does H rfl (by first | exact does_and rfl rfl rfl | exact does_pick rfl rfl rfl) ?_; clear H a; intro a H
                              refine still_does H rfl (does_move rfl) ?_; clear H a; intro a H
                              apply still_guard (i := 10) (g := 138) (t := 149) (b := false) 11 H rfl rfl (by kernel_rfl) (by kernel_rfl) rfl rfl
                              case h1 =>
                                intro hg11
                                refine still_yes' H rfl rfl (by assumption) ?_
                                refine still_does H rfl (does_move rfl) ?_; intro a H
                                refine still_yes' H rfl rfl (by assumption) ?_
                                refine still_does H rfl (does_not rfl) ?_; intro a H
                                refine still_yes' H rfl rfl (by assumption) ?_
                                refine still_does H rfl (does_move rfl) ?_; intro a H
                                apply still_guard (i := 13) (g := 141) (t := 143) (b := true) 2 H rfl rfl (by kernel_rfl) (by kernel_rfl) rfl rfl
                                case h1 =>
                                  intro hg14
                                  refine still_yes' H rfl rfl (by assumption) ?_
                                  refine still_does H rfl (does_move rfl) ?_; intro a H
                                  refine still_yes' H rfl rfl (by assumption) ?_
                                  refine still_does H rfl (does_geq rfl rfl) ?_; intro a H
                                  exact wpStill_nil (H.strip 2 rfl rfl)
                                case k =>
                                  intro a H
                                  refine still_yes' H rfl rfl (by assumption) ?_
                                  refine still_does H rfl (by first | exact does_and rfl rfl rfl | exact does_pick rfl rfl rfl) ?_; intro a H
                                  refine still_yes' H rfl rfl (by assumption) ?_
                                  refine still_does H rfl (does_move rfl) ?_; intro a H
                                  apply still_guard (i := 17) (g := 145) (t := 148) (b := true) 3 H rfl rfl (by kernel_rfl) (by kernel_rfl) rfl rfl
                                  case h1 =>
                                    intro hg18
                                    refine still_yes' H rfl rfl (by assumption) ?_
                                    refine still_does H rfl (does_move rfl) ?_; intro a H
                                    refine still_yes' H rfl rfl (by assumption) ?_
                                    refine still_does H rfl (does_move rfl) ?_; intro a H
                                    refine still_yes' H rfl rfl (by assumption) ?_
                                    refine still_does H rfl (does_geq rfl rfl) ?_; intro a H
                                    exact wpStill_nil (H.strip 3 rfl rfl)
                                  case k =>
                                    intro a H
                                    refine still_yes' H rfl rfl (by assumption) ?_
                                    refine still_does H rfl (by first | exact does_and rfl rfl rfl | exact does_pick rfl rfl rfl) ?_; intro a H
                                    exact wpStill_nil (H.strip 8 rfl rfl)
                              case k =>
                                clear H a; intro a H
                                refine still_does H rfl (by first | exact does_or rfl rfl rfl | exact does_pick rfl rfl rfl) ?_; clear H a; intro a H
                                refine wpStill_nil (hK20 _ ?_)
                                clear hK20 K20
                                refine cond_ H rfl (fun hc5 => ?_) (fun hc5 => ?_)
                                · skip
                                  exfalso; cases hq : wornB (⟨rates, pwn, ptn, pag⟩ : Part) l k (ws.getD k 0) <;> rw [hq] at hc5 hlo2 hlo3 <;> simp at hc5 hlo2 hlo3 <;> omega
                                · skip
                                  refine wp_skip ?_
                                  refine hK16 _ _ ?_
                                  replace H := H.keep [1, 2, 3, 7, 12, 14, 16] rfl
                                  refine one_still ?_
                                  refine still_does H rfl (does_move rfl) ?_; clear H a; intro a H
                                  refine still_does H rfl (does_add rfl rfl (by unfold i64ok; omega)) ?_; clear H a; intro a H
                                  refine still_does H rfl (does_assign rfl) ?_; clear H a; intro a H
                                  refine wpStill_nil ?_
                                  exact hK13 (g1 - 1) (k + 1) a _ (by omega) (by omega) (S.sel [0, 1] rfl rfl) (H.keep [16, 1, 2, 3, 7, 12, 14] rfl)
                      · try simp only [Bool.or_eq_true, Bool.and_eq_true, Bool.not_eq_true', Bool.or_eq_false_iff, Bool.and_eq_false_iff, Bool.not_eq_false', decide_eq_true_eq, decide_eq_false_iff_not, Int.not_lt, Int.not_le] at hc3
                        refine wp_exit ?_
                        refine hK11 _ _ ?_
                        replace H := H.keep [] rfl
                        refine seq_list (fun K22 hK22 => ?_)
                        refine list_call H rfl rfl Try.func18 rfl rfl (law_works _) ?_; clear H a
                        rintro _ _ a ⟨rfl, S2⟩ H
                        replace S := S.call S2; clear S2
                        refine list_does H rfl (does_assign rfl) ?_; clear H a; intro a H
                        refine hK22 _ _ ?_
                        clear hK22 K22
                        refine wp_ret ?_
                        refine ret1 (fn := Try.f12) rfl H rfl ?_
                        exact ⟨rfl, (S.sel [] rfl rfl)⟩
  case true =>
    rw [hg5] at H
    refine list_no H rfl rfl rfl rfl ?_; clear H a; intro a H
    refine list_no H rfl rfl rfl rfl ?_; clear H a; intro a H
    refine list_no H rfl rfl rfl rfl ?_; clear H a; intro a H
    refine list_no H rfl rfl rfl rfl ?_; clear H a; intro a H
    refine list_no H rfl rfl rfl rfl ?_; clear H a; intro a H
    refine list_does H rfl (by first | exact does_or rfl rfl rfl | exact does_pick rfl rfl rfl) ?_; clear H a; intro a H
    refine hK3 _ _ ?_
    clear hK3 K3
    refine cond_ H rfl (fun hc6 => ?_) (fun hc6 => ?_)
    · skip
      replace H := H.keep [] rfl
      refine seq_list (fun K23 hK23 => ?_)
      refine list_call H rfl rfl Try.func18 rfl rfl (law_works _) ?_; clear H a
      rintro _ _ a ⟨rfl, S2⟩ H
      replace S := S.call S2; clear S2
      refine list_does H rfl (does_assign rfl) ?_; clear H a; intro a H
      refine hK23 _ _ ?_
      clear hK23 K23
      refine wp_ret ?_
      refine ret1 (fn := Try.f12) rfl H rfl ?_
      exact ⟨rfl, (S.sel [] rfl rfl)⟩
    · skip
      simp at hc6

end Go.Proofs.Ytlejjfhgfajoiaa
