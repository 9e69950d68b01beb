/- ChFu. Printed by gen.py. -/
import Derived.Test.YtlejjfhgfajoiaaChLv
import Derived.Test.YtlejjfhgfajoiaaFut
namespace Go.Proofs.Ytlejjfhgfajoiaa
open Go.RowKit
set_option linter.unusedVariables false
set_option linter.unusedSimpArgs false


theorem cut_uses {w : World} {F : Nat → Prop} {A : Option Addr} {c m : Nat} {L : List Use} (h : InS w F 6 A L.length (ucell L)) (hm : m ≤ L.length) (hc : L.length ≤ c) : InS w F 6 (cutA A c 0 6) (L.take m).length (ucell (L.take m)) := by
  have e : (L.take m).length = m := by rw [List.length_take]; omega
  rw [e]
  exact (h.cut (lo := 0) (Nat.zero_le _) hm hc).congr (fun k j hk hj => by show ucell L (0 + k) j = _; rw [Nat.zero_add]; unfold ucell; rw [take_get (by omega)])


set_option maxRecDepth 100000 in
set_option maxHeartbeats 1000000 in
theorem law_ChainFuture (rates : List (Int × Int)) (RA : Option Addr) (rcp : Nat) (pwn ptn pag : Int) (l : List Use) (A : Option Addr) (cp : Nat) (plan : List Use) (B : Option Addr) (cq : Nat) (ws : List Int) (WA : Option Addr) (wc : Nat) (w : World) (hr : InS w noF 2 RA rates.length (scell rates)) (hrn : rates.length * 16 ≤ 140737488351232) (hl : InS w noF 6 A l.length (ucell l)) (hn : l.length * 48 ≤ 140737488351232) (hpl : InS w noF 6 B plan.length (ucell plan)) (hpn : plan.length * 48 ≤ 140737488351232) (hw : InS w noF 1 WA ws.length (icl ws)) (hwn : ws.length ≤ 9223372036854775807) (hsum : (l.length + plan.length) * 48 ≤ 140737488355328) :
    Calls Try.prog 15 [.agg [.slice RA rates.length rcp, .int .i64 pwn, .int .i64 ptn, .int .i64 pag].toArray, .slice A l.length cp, .agg [.slice B plan.length cq, .slice WA ws.length wc].toArray].toArray w (Ret (fun v w' => v = .bool true ∧ St w noF [] w')) := by
  have hrn1 : rates.length ≤ 9223372036854775807 := by omega
  have hn1 : l.length ≤ 9223372036854775807 := by omega
  have hpn1 : plan.length ≤ 9223372036854775807 := by omega
  have hmx : maxLen = 9223372036854775807 := rfl
  have hLL : (l ++ plan).length = l.length + plan.length := List.length_append
  have hnn : (l ++ plan).length ≤ 9223372036854775807 := by omega
  refine enter Try.func15 rfl Try.ntmps15 rfl (fun a H => ?_)
  have S := St.start w
  refine seq_list (fun K1 hK1 => ?_)
  refine list_box H rfl S rfl rfl ?_; clear H a S; intro b3 _ a hb3 hbw3 S H
  refine list_box H rfl S rfl rfl ?_; clear H a S; intro b5 _ a hb5 hbw5 S H
  refine list_does H rfl (does_assign rfl) ?_; clear H a; intro a H
  refine hK1 _ _ ?_
  clear hK1 K1
  replace H := H.keep [1, 3, 5] rfl
  replace S := S.drew
  refine seq_wq [(0, true), (2, true), (3, true), (1, false), (4, false), (5, true)] (by kernel_rfl) (by kernel_rfl) (S.sel [0, 1] rfl rfl) (fun K2 hK2 => ?_)
  refine wq_does H rfl rfl (fun _ S => does_move rfl) ?_; clear H a; intro a H
  refine wq_does H rfl rfl (fun _ S => by first | exact does_field_pt fo_87_0 rfl | exact does_field fo_87_0 rfl) ?_; clear H a; intro a H
  refine wq_does H rfl rfl (fun _ S => does_load one_63 rfl (by first | exact hw.rd S (by omega) (by omega) | exact boxM.rd S (i := 0) rfl rfl | exact boxM.rd S (i := 1) rfl rfl)) ?_; clear H a; intro a H
  refine wq_eff rfl ?_
  refine list_call H rfl rfl Try.func38 rfl rfl (ref_CopyUses l A cp _ (hl.now S) hn) ?_; clear H a
  rintro _ _ a ⟨A3, c3, rfl, S2⟩ H
  replace S := S.call S2; clear S2
  refine wpList_nil (And.intro (S.sel [1, 2] rfl rfl) ?_)
  refine wq_eff rfl ?_
  refine list_append H rfl S sl_63 sz_70 ze_70 by_70 rfl rfl (i := 0) rfl rfl rfl (hpl.now S) (ucell_ones plan) (by omega) (by omega) ?_; clear H a S; intro A1 c1 _ a S H
  replace S := S.recell (i := 0) rfl ucell_app
  rw [← List.length_append] at S H
  refine wpList_nil (And.intro (S.sel [1, 2] rfl rfl) ?_)
  refine wq_does H rfl rfl (fun _ S => does_assign rfl) ?_; clear H a; intro a H
  refine wq_nil ?_
  refine hK2 _ _ ?_
  clear hK2 K2
  refine wp_seq_k (fun K3 hK3 => ?_)
  replace H := H.keep [1, 3, 5, 7] rfl
  refine seq_list (fun K4 hK4 => ?_)
  refine list_does H rfl (by first | exact does_loadBox agg_62 sz_62 rfl S (i := 0) rfl rfl | exact does_loadBox agg_62 sz_62 rfl S (i := 1) rfl rfl | exact does_loadBox agg_62 sz_62 rfl S (i := 2) rfl rfl) ?_; clear H a; intro a H
  refine list_does H rfl (does_move rfl) ?_; clear H a; intro a H
  refine list_call H rfl rfl Try.func36 rfl rfl (ref_CheckPart rates pwn ptn pag RA rcp (l ++ plan) A1 c1 _ (hr.now S) hrn1 (ownM.inS S (i := 0) rfl) hnn) ?_; clear H a
  rintro _ _ a ⟨rfl, S2⟩ H
  replace S := S.call S2; clear S2
  refine list_does H rfl (does_neq rfl rfl) ?_; clear H a; intro a H
  refine hK4 _ _ ?_
  clear hK4 K4
  refine cond_ H rfl (fun hc1 => ?_) (fun hc1 => ?_)
  · try simp only [Bool.or_eq_true, Bool.and_eq_true, Bool.not_eq_true', Bool.or_eq_false_iff, Bool.and_eq_false_iff, Bool.not_eq_false', decide_eq_true_eq, decide_eq_false_iff_not, Int.not_lt, Int.not_le] at hc1
    replace H := H.keep [] rfl
    refine seq_list (fun K5 hK5 => ?_)
    refine list_call H rfl rfl Try.func18 rfl rfl (law_works _) ?_; clear H a
    rintro _ _ a ⟨rfl, S2⟩ H
    replace S := S.call S2; clear S2
    refine list_does H rfl (does_assign rfl) ?_; clear H a; intro a H
    refine hK5 _ _ ?_
    clear hK5 K5
    refine wp_ret ?_
    refine ret1 (fn := Try.f15) rfl H rfl ?_
    exact ⟨rfl, (S.sel [] rfl rfl)⟩
  · try simp only [Bool.or_eq_true, Bool.and_eq_true, Bool.not_eq_true', Bool.or_eq_false_iff, Bool.and_eq_false_iff, Bool.not_eq_false', decide_eq_true_eq, decide_eq_false_iff_not, Int.not_lt, Int.not_le] at hc1
    refine wp_skip ?_
    refine hK3 _ _ ?_
    replace H := H.keep [1, 3, 5, 7] rfl
    refine seq_list (fun K6 hK6 => ?_)
    refine list_does H rfl (by first | exact does_loadBox agg_62 sz_62 rfl S (i := 0) rfl rfl | exact does_loadBox agg_62 sz_62 rfl S (i := 1) rfl rfl | exact does_loadBox agg_62 sz_62 rfl S (i := 2) rfl rfl) ?_; clear H a; intro a H
    refine list_does H rfl (does_move rfl) ?_; clear H a; intro a H
    refine list_does H rfl (by first | exact does_field_pt fo_87_0 rfl | exact does_field fo_87_0 rfl) ?_; clear H a; intro a H
    refine list_does H rfl (does_load one_63 rfl (by first | exact hw.rd S (by omega) (by omega) | exact boxM.rd S (i := 0) rfl rfl | exact boxM.rd S (i := 1) rfl rfl | exact boxM.rd S (i := 2) rfl rfl)) ?_; clear H a; intro a H
    refine list_call H rfl rfl Try.func55 rfl rfl (chain_Last rates pwn ptn pag RA rcp l A cp plan B cq _ (hr.now S) hrn1 (hl.now S) hn1 (hpl.now S) hsum hpn1) ?_; clear H a
    rintro _ _ a ⟨rfl, S2⟩ H
    replace S := S.call S2; clear S2
    refine list_does H rfl (does_move rfl) ?_; clear H a; intro a H
    refine list_does H rfl (does_extract rfl rfl) ?_; clear H a; intro a H
    refine list_does H rfl (does_extract rfl rfl) ?_; clear H a; intro a H
    refine list_does H rfl (does_assign rfl) ?_; clear H a; intro a H
    refine list_does H rfl (does_assign rfl) ?_; clear H a; intro a H
    refine hK6 _ _ ?_
    clear hK6 K6
    refine wp_seq_k (fun K7 hK7 => ?_)
    have h0 : checkP (⟨rates, pwn, ptn, pag⟩ : Part) (l ++ plan) = 0 := by omega
    have hok := checkP_ok h0
    have hls := last_says h0
    generalize lastO (⟨rates, pwn, ptn, pag⟩ : Part) l plan = r at H hls
    obtain ⟨n, e⟩ := r
    dsimp only at hls
    rcases hls with he | ⟨he, hL⟩
    · skip
      skip
      replace H := H.keep [1, 3, 5, 7, 8, 9] rfl
      refine seq_still (fun K8 hK8 => ?_)
      refine still_does H rfl (does_move rfl) ?_; clear H a; intro a H
      refine still_does H rfl (does_neq rfl rfl) ?_; clear H a; intro a H
      refine wpStill_nil (hK8 _ ?_)
      clear hK8 K8
      refine cond_ H rfl (fun hc2 => ?_) (fun hc2 => ?_)
      · try simp only [Bool.or_eq_true, Bool.and_eq_true, Bool.not_eq_true', Bool.or_eq_false_iff, Bool.and_eq_false_iff, Bool.not_eq_false', decide_eq_true_eq, decide_eq_false_iff_not, Int.not_lt, Int.not_le] at hc2
        replace H := H.keep [9] rfl
        refine seq_list (fun K9 hK9 => ?_)
        refine list_does H rfl (does_move rfl) ?_; clear H a; intro a H
        refine list_does H rfl (does_eql rfl rfl) ?_; clear H a; intro a H
        refine list_does H rfl (does_move rfl) ?_; clear H a; intro a H
        refine list_still 2 ?_
        apply still_guard (i := 2) (g := 36) (t := 38) (b := false) 2 H rfl rfl (by kernel_rfl) (by kernel_rfl) rfl rfl
        case h1 =>
          intro hg3
          refine still_yes' H rfl rfl (by assumption) ?_
          refine still_does H rfl (does_move rfl) ?_; intro a H
          refine still_yes' H rfl rfl (by assumption) ?_
          refine still_does H rfl (does_eql rfl rfl) ?_; intro a H
          exact wpStill_nil (H.strip 2 rfl rfl)
        case k =>
          clear H a; intro a H
          refine wpStill_nil ?_
          refine list_does H rfl (Does.to (does_or rfl rfl rfl) (show Value.bool _ = Value.bool true from congrArg Value.bool (by dsimp only; rcases he with h | h <;> subst h <;> rfl))) ?_; clear H a; intro a H
          refine list_does H rfl (does_move rfl) ?_; clear H a; intro a H
          refine list_yes H rfl rfl ?_
          refine list_call H rfl rfl Try.func18 rfl rfl (law_works _) ?_; clear H a
          rintro _ _ a ⟨rfl, S2⟩ H
          replace S := S.call S2; clear S2
          refine list_does H rfl (by first | exact does_and rfl rfl rfl | exact does_pick rfl rfl rfl) ?_; clear H a; intro a H
          refine list_does H rfl (does_assign rfl) ?_; clear H a; intro a H
          refine hK9 _ _ ?_
          clear hK9 K9
          refine wp_ret ?_
          refine ret1 (fn := Try.f15) rfl H rfl ?_
          exact ⟨rfl, (S.sel [] rfl rfl)⟩
      · try simp only [Bool.or_eq_true, Bool.and_eq_true, Bool.not_eq_true', Bool.or_eq_false_iff, Bool.and_eq_false_iff, Bool.not_eq_false', decide_eq_true_eq, decide_eq_false_iff_not, Int.not_lt, Int.not_le] at hc2
        all_goals (exfalso; omega)
    · skip
      subst he
      have hlo := hL.lo; have hhi := hL.hi; have hll := hok.len
      replace H := H.keep [1, 3, 5, 7, 8, 9] rfl
      refine seq_still (fun K10 hK10 => ?_)
      refine still_does H rfl (does_move rfl) ?_; clear H a; intro a H
      refine still_does H rfl (does_neq rfl rfl) ?_; clear H a; intro a H
      refine wpStill_nil (hK10 _ ?_)
      clear hK10 K10
      refine cond_ H rfl (fun hc3 => ?_) (fun hc3 => ?_)
      · try simp only [Bool.or_eq_true, Bool.and_eq_true, Bool.not_eq_true', Bool.or_eq_false_iff, Bool.and_eq_false_iff, Bool.not_eq_false', decide_eq_true_eq, decide_eq_false_iff_not, Int.not_lt, Int.not_le] at hc3
        simp at hc3
      · try simp only [Bool.or_eq_true, Bool.and_eq_true, Bool.not_eq_true', Bool.or_eq_false_iff, Bool.and_eq_false_iff, Bool.not_eq_false', decide_eq_true_eq, decide_eq_false_iff_not, Int.not_lt, Int.not_le] at hc3
        refine wp_skip ?_
        refine hK7 _ _ ?_
        refine wp_seq_k (fun K11 hK11 => ?_)
        replace H := H.keep [1, 3, 5, 7, 8] rfl
        refine seq_still (fun K12 hK12 => ?_)
        refine still_does H rfl (does_move rfl) ?_; clear H a; intro a H
        refine still_does H rfl (does_lss rfl rfl) ?_; clear H a; intro a H
        refine still_does H rfl (does_move rfl) ?_; clear H a; intro a H
        apply still_guard (i := 2) (g := 45) (t := 50) (b := false) 5 H rfl rfl (by kernel_rfl) (by kernel_rfl) rfl rfl
        case h1 =>
          intro hg3
          refine still_yes' H rfl rfl (by assumption) ?_
          refine still_does H rfl (does_move rfl) ?_; intro a H
          refine still_yes' H rfl rfl (by assumption) ?_
          refine still_does H rfl (by first | exact does_field_pt fo_87_0 rfl | exact does_field fo_87_0 rfl) ?_; intro a H
          refine still_yes' H rfl rfl (by assumption) ?_
          refine still_does H rfl (does_load one_63 rfl (by first | exact hw.rd S (by omega) (by omega) | exact boxM.rd S (i := 0) rfl rfl | exact boxM.rd S (i := 1) rfl rfl | exact boxM.rd S (i := 2) rfl rfl)) ?_; intro a H
          refine still_yes' H rfl rfl (by assumption) ?_
          refine still_does H rfl (does_len sl_63 rfl) ?_; intro a H
          refine still_yes' H rfl rfl (by assumption) ?_
          refine still_does H rfl (does_gtr rfl rfl) ?_; intro a H
          exact wpStill_nil (H.strip 5 rfl rfl)
        case k =>
          clear H a; intro a H
          refine still_does H rfl (by first | exact does_or rfl rfl rfl | exact does_pick rfl rfl rfl) ?_; clear H a; intro a H
          refine wpStill_nil (hK12 _ ?_)
          clear hK12 K12
          refine cond_ H rfl (fun hc4 => ?_) (fun hc4 => ?_)
          · try simp only [Bool.or_eq_true, Bool.and_eq_true, Bool.not_eq_true', Bool.or_eq_false_iff, Bool.and_eq_false_iff, Bool.not_eq_false', decide_eq_true_eq, decide_eq_false_iff_not, Int.not_lt, Int.not_le] at hc4
            exfalso; omega
          · try simp only [Bool.or_eq_true, Bool.and_eq_true, Bool.not_eq_true', Bool.or_eq_false_iff, Bool.and_eq_false_iff, Bool.not_eq_false', decide_eq_true_eq, decide_eq_false_iff_not, Int.not_lt, Int.not_le] at hc4
            refine wp_skip ?_
            refine hK11 _ _ ?_
            replace H := H.keep [1, 3, 5, 7, 8] rfl
            refine seq_list (fun K13 hK13 => ?_)
            refine list_does H rfl (by first | exact does_loadBox agg_62 sz_62 rfl S (i := 0) rfl rfl | exact does_loadBox agg_62 sz_62 rfl S (i := 1) rfl rfl | exact does_loadBox agg_62 sz_62 rfl S (i := 2) rfl rfl) ?_; clear H a; intro a H
            refine list_does H rfl (does_move rfl) ?_; clear H a; intro a H
            refine list_does H rfl (by first | exact does_field_pt fo_87_1 rfl | exact does_field fo_87_1 rfl) ?_; clear H a; intro a H
            refine list_does H rfl (does_load one_29 rfl (by first | exact hw.rd S (by omega) (by omega) | exact boxM.rd S (i := 0) rfl rfl | exact boxM.rd S (i := 1) rfl rfl | exact boxM.rd S (i := 2) rfl rfl)) ?_; clear H a; intro a H
            refine list_call H rfl rfl Try.func49 rfl rfl (law_History rates pwn ptn pag RA rcp (l ++ plan) A1 c1 ws WA wc _ (hr.now S) hrn1 (ownM.inS S (i := 0) rfl) hnn (hw.now S) hwn hok) ?_; clear H a
            rintro _ _ a ⟨rfl, S2⟩ H
            replace S := S.call S2; clear S2
            refine list_does H rfl (does_assign rfl) ?_; clear H a; intro a H
            refine hK13 _ _ ?_
            clear hK13 K13
            refine wp_seq_k (fun K14 hK14 => ?_)
            replace H := H.keep [1, 3, 5, 7, 8, 10] rfl
            refine seq_still (fun K15 hK15 => ?_)
            refine still_does H rfl (does_assign rfl) ?_; clear H a; intro a H
            refine wpStill_nil (hK15 _ ?_)
            clear hK15 K15
            refine wp_block ?_
            refine loop_st (X := Nat) (R0 := _) [1, 3, 5, 7, 8, 10] H rfl (fun k => [(11, .int .i64 (k : Int))]) (fun k => []) (fun g k => k ≤ l.length + plan.length ∧ g + k = l.length + plan.length) (l.length + plan.length) 0 ?_ (S.sel [0, 1, 2] rfl rfl) (H.keep [11, 1, 3, 5, 7, 8, 10] rfl) ?_
            · exact ⟨by omega, by omega⟩
            · intro g1 x1 a w1 hp S H K16 hK16
              obtain ⟨k, rfl⟩ : ∃ y, y = x1 := ⟨_, rfl⟩
              skip
              refine wp_seq_k (fun K17 hK17 => ?_)
              replace H := H.keep [1, 3, 5, 7, 8, 10, 11] rfl
              refine seq_still (fun K18 hK18 => ?_)
              refine still_does H rfl (does_move rfl) ?_; clear H a; intro a H
              refine still_does H rfl (does_move rfl) ?_; clear H a; intro a H
              refine still_does H rfl (does_len sl_63 rfl) ?_; clear H a; intro a H
              refine still_does H rfl (does_move rfl) ?_; clear H a; intro a H
              refine still_does H rfl (does_add rfl rfl (by unfold i64ok; omega)) ?_; clear H a; intro a H
              refine still_does H rfl (does_lss rfl rfl) ?_; clear H a; intro a H
              refine still_does H rfl (does_move rfl) ?_; clear H a; intro a H
              apply still_guard (i := 6) (g := 63) (t := 64) (b := true) 1 H rfl rfl (by kernel_rfl) (by kernel_rfl) rfl rfl
              case h1 =>
                intro hg7
                refine still_yes' H rfl rfl (by assumption) ?_
                refine still_does H rfl (does_move rfl) ?_; intro a H
                exact wpStill_nil (H.strip 1 rfl rfl)
              case k =>
                clear H a; intro a H
                refine still_does H rfl (by first | exact does_and rfl rfl rfl | exact does_pick rfl rfl rfl) ?_; clear H a; intro a H
                refine still_does H rfl (does_move rfl) ?_; clear H a; intro a H
                apply still_guard (i := 9) (g := 66) (t := 68) (b := true) 2 H rfl rfl (by kernel_rfl) (by kernel_rfl) rfl rfl
                case h1 =>
                  intro hg10
                  refine still_yes' H rfl rfl (by assumption) ?_
                  refine still_does H rfl (does_move rfl) ?_; intro a H
                  refine still_yes' H rfl rfl (by assumption) ?_
                  refine still_does H rfl (does_geq rfl rfl) ?_; intro a H
                  exact wpStill_nil (H.strip 2 rfl rfl)
                case k =>
                  clear H a; intro a H
                  refine still_does H rfl (by first | exact does_and rfl rfl rfl | exact does_pick rfl rfl rfl) ?_; clear H a; intro a H
                  refine wpStill_nil (hK18 _ ?_)
                  clear hK18 K18
                  refine cond_ H rfl (fun hc5 => ?_) (fun hc5 => ?_)
                  · try simp only [Bool.or_eq_true, Bool.and_eq_true, Bool.not_eq_true', Bool.or_eq_false_iff, Bool.and_eq_false_iff, Bool.not_eq_false', decide_eq_true_eq, decide_eq_false_iff_not, Int.not_lt, Int.not_le] at hc5
                    refine wp_skip ?_
                    refine hK17 _ _ ?_
                    refine wp_seq_k (fun K19 hK19 => ?_)
                    refine wp_block ?_
                    have hh1 := histB_at hc5.1.2
                    have hlv := lives hok hh1.2
                    replace H := H.keep [1, 3, 5, 7, 8, 10, 11] rfl
                    replace S := S.drew
                    refine seq_wq [(0, true), (1, true), (2, true), (3, true), (4, true), (5, true), (6, true), (7, true), (8, false)] (by kernel_rfl) (by kernel_rfl) (S.sel [0, 1, 2] rfl rfl) (fun K20 hK20 => ?_)
                    refine wq_does H rfl rfl (fun _ S => by first | exact does_loadBox agg_62 sz_62 rfl S (i := 0) rfl rfl | exact does_loadBox agg_62 sz_62 rfl S (i := 1) rfl rfl | exact does_loadBox agg_62 sz_62 rfl S (i := 2) rfl rfl) ?_; clear H a; intro a H
                    refine wq_does H rfl rfl (fun _ S => does_move rfl) ?_; clear H a; intro a H
                    refine wq_does H rfl rfl (fun _ S => does_move rfl) ?_; clear H a; intro a H
                    refine wq_does H rfl rfl (fun _ S => by first | exact does_field_pt fo_87_1 rfl | exact does_field fo_87_1 rfl) ?_; clear H a; intro a H
                    refine wq_does H rfl rfl (fun _ S => does_load one_29 rfl (by first | exact hw.rd S (by omega) (by omega) | exact boxM.rd S (i := 0) rfl rfl | exact boxM.rd S (i := 1) rfl rfl | exact boxM.rd S (i := 2) rfl rfl)) ?_; clear H a; intro a H
                    refine wq_does H rfl rfl (fun _ S => does_move rfl) ?_; clear H a; intro a H
                    refine wq_does H rfl rfl (fun _ S => by first | exact does_indexN sl_29 sz_3 rfl rfl (by first | exact hw.adr (by omega)) (by first | omega | omega) | exact does_index sl_29 sz_3 rfl rfl (by first | exact hw.adr (by omega)) (by omega) (by first | omega | omega)) ?_; clear H a; intro a H
                    refine wq_does H rfl rfl (fun _ S => does_load one_3 rfl (by first | exact hw.rd S (by omega) (by omega) | exact boxM.rd S (i := 0) rfl rfl | exact boxM.rd S (i := 1) rfl rfl | exact boxM.rd S (i := 2) rfl rfl)) ?_; clear H a; intro a H
                    refine wq_eff rfl ?_
                    refine list_call H rfl rfl Try.func50 rfl rfl (ref_Worn rates pwn ptn pag RA rcp (l ++ plan) A1 c1 _ (hr.now S) hrn1 (ownM.inS S (i := 0) rfl) hnn hok k _ (by omega)) ?_; clear H a
                    rintro _ _ a ⟨rfl, S2⟩ H
                    replace S := S.call S2; clear S2
                    refine wpList_nil (And.intro (S.sel [0, 1, 2] rfl rfl) ?_)
                    refine wq_nil ?_
                    refine hK20 _ _ ?_
                    clear hK20 K20
                    refine cond_ H rfl (fun hc6 => ?_) (fun hc6 => ?_)
                    · skip
                      exfalso
                      have h8 := hlv.out k (by omega) hc6
                      rcases (show n = plan.length ∨ n < plan.length from by omega) with h7 | h7
                      · rcases hL.all h7 with h6 | h6
                        · omega
                        · exact h6
                      · obtain ⟨b, h6, _, h5, _⟩ := hL.at_ h7
                        have := h5 (by omega)
                        omega
                    · skip
                      refine wp_skip ?_
                      refine hK19 _ _ ?_
                      replace H := H.keep [1, 3, 5, 7, 8, 10, 11] rfl
                      refine one_still ?_
                      refine still_does H rfl (does_move rfl) ?_; clear H a; intro a H
                      refine still_does H rfl (does_add rfl rfl (by unfold i64ok; omega)) ?_; clear H a; intro a H
                      refine still_does H rfl (does_assign rfl) ?_; clear H a; intro a H
                      refine wpStill_nil ?_
                      exact hK16 (g1 - 1) (k + 1) a _ (by omega) (by omega) (S.sel [0, 1, 2] rfl rfl) (H.keep [11, 1, 3, 5, 7, 8, 10] rfl)
                  · try simp only [Bool.or_eq_true, Bool.and_eq_true, Bool.not_eq_true', Bool.or_eq_false_iff, Bool.and_eq_false_iff, Bool.not_eq_false', decide_eq_true_eq, decide_eq_false_iff_not, Int.not_lt, Int.not_le] at hc5
                    refine wp_exit ?_
                    refine hK14 _ _ ?_
                    refine wp_seq_k (fun K22 hK22 => ?_)
                    replace H := H.keep [1, 3, 5, 7, 8] rfl
                    refine seq_still (fun K23 hK23 => ?_)
                    refine still_does H rfl (does_move rfl) ?_; clear H a; intro a H
                    refine still_does H rfl (by first | exact does_field_pt fo_87_0 rfl | exact does_field fo_87_0 rfl) ?_; clear H a; intro a H
                    refine still_does H rfl (does_load one_63 rfl (by first | exact hw.rd S (by omega) (by omega) | exact boxM.rd S (i := 0) rfl rfl | exact boxM.rd S (i := 1) rfl rfl | exact boxM.rd S (i := 2) rfl rfl)) ?_; clear H a; intro a H
                    refine still_does H rfl (does_len sl_63 rfl) ?_; clear H a; intro a H
                    refine still_does H rfl (does_eql rfl rfl) ?_; clear H a; intro a H
                    refine wpStill_nil (hK23 _ ?_)
                    clear hK23 K23
                    refine cond_ H rfl (fun hc7 => ?_) (fun hc7 => ?_)
                    · try simp only [Bool.or_eq_true, Bool.and_eq_true, Bool.not_eq_true', Bool.or_eq_false_iff, Bool.and_eq_false_iff, Bool.not_eq_false', decide_eq_true_eq, decide_eq_false_iff_not, Int.not_lt, Int.not_le] at hc7
                      replace H := H.keep [] rfl
                      refine seq_list (fun K24 hK24 => ?_)
                      refine list_call H rfl rfl Try.func18 rfl rfl (law_works _) ?_; clear H a
                      rintro _ _ a ⟨rfl, S2⟩ H
                      replace S := S.call S2; clear S2
                      refine list_does H rfl (does_assign rfl) ?_; clear H a; intro a H
                      refine hK24 _ _ ?_
                      clear hK24 K24
                      refine wp_ret ?_
                      refine ret1 (fn := Try.f15) rfl H rfl ?_
                      exact ⟨rfl, (S.sel [] rfl rfl)⟩
                    · try simp only [Bool.or_eq_true, Bool.and_eq_true, Bool.not_eq_true', Bool.or_eq_false_iff, Bool.and_eq_false_iff, Bool.not_eq_false', decide_eq_true_eq, decide_eq_false_iff_not, Int.not_lt, Int.not_le] at hc7
                      refine wp_skip ?_
                      refine hK22 _ _ ?_
                      obtain ⟨b, hb1, hb2, hb3, hb4⟩ := hL.at_ (by omega)
                      obtain ⟨m, hm⟩ := Int.eq_ofNat_of_zero_le (show 0 ≤ (l.length : Int) + n + 1 by omega)
                      have hmle : m ≤ (l ++ plan).length := by omega
                      have htl : ((l ++ plan).take m).length = m := by rw [List.length_take]; omega
                      have hbm : b < m := by omega
                      have hbt := beyond_take hok hL.wear hmle (fun j h1 h2 => by rw [app_get (by omega)]; exact any_false hL.free (by omega)) hbm hb1
                      replace H := H.keep [1, 3, 7, 8] rfl
                      replace S := S.drew
                      refine seq_wq [(0, true), (1, true), (2, true), (3, true), (4, true), (5, true), (6, true), (7, true), (8, false), (9, true), (10, true), (11, true), (12, true), (13, true)] (by kernel_rfl) (by kernel_rfl) (S.sel [0, 1, 2] rfl rfl) (fun K25 hK25 => ?_)
                      refine wq_does H rfl rfl (fun _ S => by first | exact does_loadBox agg_62 sz_62 rfl S (i := 0) rfl rfl | exact does_loadBox agg_62 sz_62 rfl S (i := 1) rfl rfl | exact does_loadBox agg_62 sz_62 rfl S (i := 2) rfl rfl) ?_; clear H a; intro a H
                      refine wq_does H rfl rfl (fun _ S => does_move rfl) ?_; clear H a; intro a H
                      refine wq_does H rfl rfl (fun _ S => does_move rfl) ?_; clear H a; intro a H
                      refine wq_does H rfl rfl (fun _ S => does_len sl_63 rfl) ?_; clear H a; intro a H
                      refine wq_does H rfl rfl (fun _ S => does_move rfl) ?_; clear H a; intro a H
                      refine wq_does H rfl rfl (fun _ S => does_add rfl rfl (by unfold i64ok; omega)) ?_; clear H a; intro a H
                      refine wq_does H rfl rfl (fun _ S => Does.to (does_add rfl rfl (by unfold i64ok; omega)) (show _ = Value.int .i64 ((m : Nat) : Int) from by rw [hm])) ?_; clear H a; intro a H
                      refine wq_does H rfl rfl (fun _ S => Does.to (does_slice sl_63 sz_70 rfl (lo := 0) (hi := m) (.inl ⟨rfl, rfl⟩) (.inr ⟨_, rfl, _, rfl⟩) (by omega) (by have := (ownM.le S (i := 0) rfl).1; omega)) (show _ = Value.slice (cutA A1 c1 0 6) ((l ++ plan).take m).length (c1 - 0) from by rw [htl]; rfl)) ?_; clear H a; intro a H
                      refine wq_eff rfl ?_
                      refine list_call H rfl rfl Try.func40 rfl rfl (chain_Beyond rates pwn ptn pag RA rcp ((l ++ plan).take m) (cutA A1 c1 0 6) (c1 - 0) _ (hr.now S) hrn1 (cut_uses (ownM.inS S (i := 0) rfl) hmle (ownM.le S (i := 0) rfl).1) (by omega)) ?_; clear H a
                      rintro _ _ a ⟨rfl, S2⟩ H
                      replace S := S.call S2; clear S2
                      rw [hbt] at H
                      refine wpList_nil (And.intro (S.sel [0, 1, 2] rfl rfl) ?_)
                      refine wq_does H rfl rfl (fun _ S => does_move rfl) ?_; clear H a; intro a H
                      refine wq_does H rfl rfl (fun _ S => does_extract rfl rfl) ?_; clear H a; intro a H
                      refine wq_does H rfl rfl (fun _ S => does_extract rfl rfl) ?_; clear H a; intro a H
                      refine wq_does H rfl rfl (fun _ S => does_assign rfl) ?_; clear H a; intro a H
                      refine wq_does H rfl rfl (fun _ S => does_assign rfl) ?_; clear H a; intro a H
                      refine wq_nil ?_
                      refine hK25 _ _ ?_
                      clear hK25 K25
                      replace H := H.keep [1, 8, 12, 13] rfl
                      refine seq_list (fun K26 hK26 => ?_)
                      refine list_does H rfl (does_move rfl) ?_; clear H a; intro a H
                      refine list_does H rfl (does_eql rfl rfl) ?_; clear H a; intro a H
                      refine list_does H rfl (does_move rfl) ?_; clear H a; intro a H
                      refine list_still 24 ?_
                      apply still_guard (i := 2) (g := 101) (t := 125) (b := true) 24 H rfl rfl (by kernel_rfl) (by kernel_rfl) rfl rfl
                      case h1 =>
                        intro hg3
                        refine still_yes' H rfl rfl (by assumption) ?_
                        refine still_does H rfl (does_move rfl) ?_; intro a H
                        refine still_yes' H rfl rfl (by assumption) ?_
                        refine still_does H rfl (does_geq rfl rfl) ?_; intro a H
                        refine still_yes' H rfl rfl (by assumption) ?_
                        refine still_does H rfl (does_move rfl) ?_; intro a H
                        apply still_guard (i := 5) (g := 104) (t := 110) (b := true) 6 H rfl rfl (by kernel_rfl) (by kernel_rfl) rfl rfl
                        case h1 =>
                          intro hg6
                          refine still_yes' H rfl rfl (by assumption) ?_
                          refine still_does H rfl (does_move rfl) ?_; intro a H
                          refine still_yes' H rfl rfl (by assumption) ?_
                          refine still_does H rfl (does_move rfl) ?_; intro a H
                          refine still_yes' H rfl rfl (by assumption) ?_
                          refine still_does H rfl (does_len sl_63 rfl) ?_; intro a H
                          refine still_yes' H rfl rfl (by assumption) ?_
                          refine still_does H rfl (does_move rfl) ?_; intro a H
                          refine still_yes' H rfl rfl (by assumption) ?_
                          refine still_does H rfl (does_add rfl rfl (by unfold i64ok; omega)) ?_; intro a H
                          refine still_yes' H rfl rfl (by assumption) ?_
                          refine still_does H rfl (does_eql rfl rfl) ?_; intro a H
                          exact wpStill_nil (H.strip 6 rfl rfl)
                        case k =>
                          intro a H
                          refine still_yes' H rfl rfl (by assumption) ?_
                          refine still_does H rfl (by first | exact does_and rfl rfl rfl | exact does_pick rfl rfl rfl) ?_; intro a H
                          refine still_yes' H rfl rfl (by assumption) ?_
                          refine still_does H rfl (does_move rfl) ?_; intro a H
                          apply still_guard (i := 13) (g := 112) (t := 124) (b := false) 12 H rfl rfl (by kernel_rfl) (by kernel_rfl) rfl rfl
                          case h1 =>
                            intro hg14
                            refine still_yes' H rfl rfl (by assumption) ?_
                            refine still_does H rfl (does_move rfl) ?_; intro a H
                            refine still_yes' H rfl rfl (by assumption) ?_
                            refine still_does H rfl (does_lss rfl rfl) ?_; intro a H
                            refine still_yes' H rfl rfl (by assumption) ?_
                            refine still_does H rfl (does_move rfl) ?_; intro a H
                            apply still_guard (i := 16) (g := 115) (t := 117) (b := true) 2 H rfl rfl (by kernel_rfl) (by kernel_rfl) rfl rfl
                            case h1 =>
                              intro hg17
                              refine still_yes' H rfl rfl (by assumption) ?_
                              refine still_does H rfl (does_move rfl) ?_; intro a H
                              refine still_yes' H rfl rfl (by assumption) ?_
                              refine still_does H rfl (does_geq rfl rfl) ?_; intro a H
                              exact wpStill_nil (H.strip 2 rfl rfl)
                            case k =>
                              intro a H
                              refine still_yes' H rfl rfl (by assumption) ?_
                              refine still_does H rfl (by first | exact does_and rfl rfl rfl | exact does_pick rfl rfl rfl) ?_; intro a H
                              refine still_yes' H rfl rfl (by assumption) ?_
                              refine still_does H rfl (does_move rfl) ?_; intro a H
                              apply still_guard (i := 20) (g := 119) (t := 123) (b := true) 4 H rfl rfl (by kernel_rfl) (by kernel_rfl) rfl rfl
                              case h1 =>
                                intro hg21
                                refine still_yes' H rfl rfl (by assumption) ?_
                                refine still_does H rfl (does_move rfl) ?_; intro a H
                                refine still_yes' H rfl rfl (by assumption) ?_
                                refine still_does H rfl (does_move rfl) ?_; intro a H
                                refine still_yes' H rfl rfl (by assumption) ?_
                                refine still_does H rfl (does_len sl_63 rfl) ?_; intro a H
                                refine still_yes' H rfl rfl (by assumption) ?_
                                refine still_does H rfl (does_lss rfl rfl) ?_; intro a H
                                exact wpStill_nil (H.strip 4 rfl rfl)
                              case k =>
                                intro a H
                                refine still_yes' H rfl rfl (by assumption) ?_
                                refine still_does H rfl (by first | exact does_and rfl rfl rfl | exact does_pick rfl rfl rfl) ?_; intro a H
                                exact wpStill_nil (H.strip 8 rfl rfl)
                          case k =>
                            intro a H
                            refine still_yes' H rfl rfl (by assumption) ?_
                            refine still_does H rfl (by first | exact does_or rfl rfl rfl | exact does_pick rfl rfl rfl) ?_; intro a H
                            exact wpStill_nil (H.strip 8 rfl rfl)
                      case k =>
                        clear H a; intro a H
                        refine wpStill_nil ?_
                        refine list_does H rfl (Does.to (does_and rfl rfl rfl) (show Value.bool _ = Value.bool true from congrArg Value.bool (by simp only [Bool.and_eq_true, Bool.or_eq_true, decide_eq_true_eq, true_and]; (try dsimp only); omega))) ?_; clear H a; intro a H
                        refine list_does H rfl (does_move rfl) ?_; clear H a; intro a H
                        refine list_yes H rfl rfl ?_
                        refine list_call H rfl rfl Try.func18 rfl rfl (law_works _) ?_; clear H a
                        rintro _ _ a ⟨rfl, S2⟩ H
                        replace S := S.call S2; clear S2
                        refine list_does H rfl (by first | exact does_and rfl rfl rfl | exact does_pick rfl rfl rfl) ?_; clear H a; intro a H
                        refine list_does H rfl (does_assign rfl) ?_; clear H a; intro a H
                        refine hK26 _ _ ?_
                        clear hK26 K26
                        refine wp_ret ?_
                        refine ret1 (fn := Try.f15) rfl H rfl ?_
                        exact ⟨rfl, (S.sel [] rfl rfl)⟩

end Go.Proofs.Ytlejjfhgfajoiaa
