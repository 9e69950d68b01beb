/- ChG. Printed by gen.py. -/
import Derived.Test.YtlejjfhgfajoiaaChF
import Derived.Test.YtlejjfhgfajoiaaWit
namespace Go.Proofs.Ytlejjfhgfajoiaa
open Go.RowKit
set_option linter.unusedVariables false
set_option linter.unusedSimpArgs false


/-- Witness: the error, or each length. -/
def witO (c : Chain) (l : List Gauge) (a b len : Int) : Except Int (Nat → Int) := match wholeO c l (isRunB c a b) with
  | .error e => .error e
  | .ok M => if -(M b.toNat a.toNat) ≤ len ∧ len ≤ M a.toNat b.toNat then .ok (witN (witS M a.toNat b.toNat len)) else .error 1
def WitR (w : World) (n : Nat) (o : Except Int (Nat → Int)) (v : Value) (w' : World) : Prop := match o with
  | .error e => v = .tuple #[.slice none 0 0, .int .i64 e] ∧ St w noF [] w'
  | .ok f => ∃ A' c', v = .tuple #[.slice A' n c', .int .i64 0] ∧ St w noF [ownM 3 1 A' n c' (fun k _ => .int .i64 (f k))] w'


set_option maxRecDepth 100000 in
set_option maxHeartbeats 1000000 in
theorem chain_Witness (links pitch limit : Int) (l : List Gauge) (A : Option Addr) (cp : Nat) (xa xb len : Int) (w : World) (hl : InS w noF 4 A l.length (gcell l)) (hn : l.length ≤ 9223372036854775807) :
    Calls Try.prog 19 [.agg [.int .i64 links, .int .i64 pitch, .int .i64 limit].toArray, .slice A l.length cp, .int .i64 xa, .int .i64 xb, .int .i64 len].toArray w (Ret (WitR w links.toNat (witO (⟨links, pitch, limit⟩ : Chain) l xa xb len))) := by
  refine enter Try.func19 rfl Try.ntmps19 rfl (fun a H => ?_)
  have S := St.start w
  refine seq_list (fun K1 hK1 => ?_)
  refine list_box H rfl S rfl rfl ?_; clear H a S; intro b5 _ a hb5 hbw5 S H
  refine list_does H rfl (does_assign rfl) ?_; clear H a; intro a H
  refine list_does H rfl (does_assign rfl) ?_; clear H a; intro a H
  refine hK1 _ _ ?_
  clear hK1 K1
  rcases hW : wholeO (⟨links, pitch, limit⟩ : Chain) l (isRunB (⟨links, pitch, limit⟩ : Chain) xa xb) with e | M
  · skip
    have he := wholeO_err hW
    replace H := H.keep [1, 2, 3, 4, 5] rfl
    replace S := S.drew
    refine seq_wq [(0, true), (1, true), (2, true), (3, true), (4, true), (5, false), (6, false), (7, true), (8, true), (9, true), (10, true), (11, true)] (by kernel_rfl) (by kernel_rfl) (S.sel [0] rfl rfl) (fun K2 hK2 => ?_)
    refine wq_does H rfl rfl (fun _ S => by first | exact does_loadBox agg_23 sz_23 rfl S (i := 0) rfl rfl) ?_; clear H a; intro a H
    refine wq_does H rfl rfl (fun _ S => does_move rfl) ?_; clear H a; intro a H
    refine wq_does H rfl rfl (fun _ S => by first | exact does_loadBox agg_23 sz_23 rfl S (i := 0) rfl rfl) ?_; clear H a; intro a H
    refine wq_does H rfl rfl (fun _ S => does_move rfl) ?_; clear H a; intro a H
    refine wq_does H rfl rfl (fun _ S => does_move rfl) ?_; clear H a; intro a H
    refine wq_eff rfl ?_
    refine list_call H rfl rfl Try.func61 rfl rfl (chain_isRun links pitch limit xa xb _) ?_; clear H a
    rintro _ _ a ⟨rfl, S2⟩ H
    replace S := S.call S2; clear S2
    refine wpList_nil (And.intro (S.sel [0] rfl rfl) ?_)
    refine wq_eff rfl ?_
    refine list_call H rfl rfl Try.func60 rfl rfl (ret_imp (chain_whole links pitch limit l A cp (isRunB (⟨links, pitch, limit⟩ : Chain) xa xb) _ (hl.now S) hn) (fun _ _ => whole_err hW)) ?_; clear H a
    rintro _ _ a ⟨rfl, S2⟩ H
    replace S := S.call S2; clear S2
    refine wpList_nil (And.intro (S.sel [0] rfl rfl) ?_)
    refine wq_does H rfl rfl (fun _ S => does_move rfl) ?_; clear H a; intro a H
    refine wq_does H rfl rfl (fun _ S => does_extract rfl rfl) ?_; clear H a; intro a H
    refine wq_does H rfl rfl (fun _ S => does_extract rfl rfl) ?_; clear H a; intro a H
    refine wq_does H rfl rfl (fun _ S => does_assign rfl) ?_; clear H a; intro a H
    refine wq_does H rfl rfl (fun _ S => does_assign rfl) ?_; clear H a; intro a H
    refine wq_nil ?_
    refine hK2 _ _ ?_
    clear hK2 K2
    refine wp_seq_k (fun K3 hK3 => ?_)
    replace H := H.keep [2, 3, 4, 5, 12, 13] rfl
    refine seq_still (fun K4 hK4 => ?_)
    refine still_does H rfl (does_move rfl) ?_; clear H a; intro a H
    refine still_does H rfl (does_neq rfl rfl) ?_; clear H a; intro a H
    refine wpStill_nil (hK4 _ ?_)
    clear hK4 K4
    refine cond_ H rfl (fun hc1 => ?_) (fun hc1 => ?_)
    · try simp only [Bool.or_eq_true, Bool.and_eq_true, Bool.not_eq_true', Bool.or_eq_false_iff, Bool.and_eq_false_iff, Bool.not_eq_false', decide_eq_true_eq, decide_eq_false_iff_not, Int.not_lt, Int.not_le] at hc1
      replace H := H.keep [13] rfl
      refine seq_still (fun K5 hK5 => ?_)
      refine still_does H rfl (does_move rfl) ?_; clear H a; intro a H
      refine still_does H rfl (does_assign rfl) ?_; clear H a; intro a H
      refine still_does H rfl (does_assign rfl) ?_; clear H a; intro a H
      refine wpStill_nil (hK5 _ ?_)
      clear hK5 K5
      refine wp_ret ?_
      refine ret2 (fn := Try.f19) rfl H rfl rfl ?_
      rw [show witO (⟨links, pitch, limit⟩ : Chain) l xa xb len = .error e from by unfold witO; rw [hW]]; exact ⟨rfl, (S.sel [] rfl rfl)⟩
    · try simp only [Bool.or_eq_true, Bool.and_eq_true, Bool.not_eq_true', Bool.or_eq_false_iff, Bool.and_eq_false_iff, Bool.not_eq_false', decide_eq_true_eq, decide_eq_false_iff_not, Int.not_lt, Int.not_le] at hc1
      all_goals (exfalso; omega)
  · skip
    have hG := wholeO_good hW; have hC := hG.2; unfold chainOk at hC; simp only [decide_eq_true_eq] at hC
    obtain ⟨m, rfl⟩ := Int.eq_ofNat_of_zero_le (show 0 ≤ links by omega)
    have hG1 : Good (m + 1) M := hG.1; have hB : bdd (m + 1) 2199023255552 M := hG1.bdd; have hW1 := wholeO_ok hW
    have hAB := hW1.2.1; unfold isRunB at hAB; simp only [Bool.and_eq_true, decide_eq_true_eq] at hAB; obtain ⟨x1, rfl⟩ := Int.eq_ofNat_of_zero_le hAB.1.1; obtain ⟨x2, rfl⟩ := Int.eq_ofNat_of_zero_le (show 0 ≤ xb by omega)
    have hbig : bdd (m + 1) 4611686018427387904 M := fun x y hx hy => by have := hB x y hx hy; omega
    replace H := H.keep [1, 2, 3, 4, 5] rfl
    replace S := S.drew
    refine seq_wq [(0, true), (1, true), (2, true), (3, true), (4, true), (5, false), (6, false), (7, true), (8, true), (9, true), (10, true), (11, true)] (by kernel_rfl) (by kernel_rfl) (S.sel [0] rfl rfl) (fun K6 hK6 => ?_)
    refine wq_does H rfl rfl (fun _ S => by first | exact does_loadBox agg_23 sz_23 rfl S (i := 0) rfl rfl) ?_; clear H a; intro a H
    refine wq_does H rfl rfl (fun _ S => does_move rfl) ?_; clear H a; intro a H
    refine wq_does H rfl rfl (fun _ S => by first | exact does_loadBox agg_23 sz_23 rfl S (i := 0) rfl rfl) ?_; clear H a; intro a H
    refine wq_does H rfl rfl (fun _ S => does_move rfl) ?_; clear H a; intro a H
    refine wq_does H rfl rfl (fun _ S => does_move rfl) ?_; clear H a; intro a H
    refine wq_eff rfl ?_
    refine list_call H rfl rfl Try.func61 rfl rfl (chain_isRun m pitch limit x1 x2 _) ?_; clear H a
    rintro _ _ a ⟨rfl, S2⟩ H
    replace S := S.call S2; clear S2
    refine wpList_nil (And.intro (S.sel [0] rfl rfl) ?_)
    refine wq_eff rfl ?_
    refine list_call H rfl rfl Try.func60 rfl rfl (ret_imp (chain_whole m pitch limit l A cp (isRunB ⟨m, pitch, limit⟩ x1 x2) _ (hl.now S) hn) (fun _ _ => whole_ok (n := m + 1) hW)) ?_; clear H a
    rintro _ _ a ⟨W, rb, rc, rfl, S2⟩ H
    replace S := S.call S2; clear S2
    refine wpList_nil (And.intro (S.sel [2] rfl rfl) ?_)
    refine wq_does H rfl rfl (fun _ S => does_move rfl) ?_; clear H a; intro a H
    refine wq_does H rfl rfl (fun _ S => does_extract rfl rfl) ?_; clear H a; intro a H
    refine wq_does H rfl rfl (fun _ S => does_extract rfl rfl) ?_; clear H a; intro a H
    refine wq_does H rfl rfl (fun _ S => does_assign rfl) ?_; clear H a; intro a H
    refine wq_does H rfl rfl (fun _ S => does_assign rfl) ?_; clear H a; intro a H
    refine wq_nil ?_
    refine hK6 _ _ ?_
    clear hK6 K6
    refine wp_seq_k (fun K7 hK7 => ?_)
    replace H := H.keep [2, 3, 4, 5, 12, 13] rfl
    refine seq_still (fun K8 hK8 => ?_)
    refine still_does H rfl (does_move rfl) ?_; clear H a; intro a H
    refine still_does H rfl (does_neq rfl rfl) ?_; clear H a; intro a H
    refine wpStill_nil (hK8 _ ?_)
    clear hK8 K8
    refine cond_ H rfl (fun hc2 => ?_) (fun hc2 => ?_)
    · try simp only [Bool.or_eq_true, Bool.and_eq_true, Bool.not_eq_true', Bool.or_eq_false_iff, Bool.and_eq_false_iff, Bool.not_eq_false', decide_eq_true_eq, decide_eq_false_iff_not, Int.not_lt, Int.not_le] at hc2
      all_goals first | (exfalso; omega) | (simp at hc2)
    · try simp only [Bool.or_eq_true, Bool.and_eq_true, Bool.not_eq_true', Bool.or_eq_false_iff, Bool.and_eq_false_iff, Bool.not_eq_false', decide_eq_true_eq, decide_eq_false_iff_not, Int.not_lt, Int.not_le] at hc2
      refine wp_skip ?_
      refine hK7 _ _ ?_
      refine wp_seq_k (fun K9 hK9 => ?_)
      replace H := H.keep [2, 3, 4, 5, 12] rfl
      refine seq_list (fun K10 hK10 => ?_)
      refine list_does H rfl (does_move rfl) ?_; clear H a; intro a H
      refine list_does H rfl (does_move rfl) ?_; clear H a; intro a H
      refine list_does H rfl (does_move rfl) ?_; clear H a; intro a H
      have S1 := (S.sel [0, 1] rfl rfl)
      refine list_call H rfl rfl Try.func62 rfl rfl (web_span (m + 1) (m + 1) W rb rc M x1 x2 _ _ S1.startR (by omega) (by omega) hbig) ?_; clear H a
      rintro _ _ a ⟨rfl, S2⟩ H
      replace S := (S.sel [0, 1, 2] rfl rfl).callR (M := [_, _]) S2; clear S1 S2
      refine list_alloc H rfl S ze_42 ?_; clear H a S; intro b14 _ a hb14 hbw14 S H
      first | (refine list_store H S (i := 0) rfl rfl rfl rfl sz_42 rfl rfl ?_) | (refine list_store H S (i := 1) rfl rfl rfl rfl sz_42 rfl rfl ?_) | (refine list_store H S (i := 2) rfl rfl rfl rfl sz_42 rfl rfl ?_) | (refine list_store H S (i := 3) rfl rfl rfl rfl sz_42 rfl rfl ?_) | (refine list_store_own H S (i := 0) rfl rfl rfl (by omega) (by omega) sz_42 rfl ?_) | (refine list_store_own H S (i := 1) rfl rfl rfl (by omega) (by omega) sz_42 rfl ?_) | (refine list_store_own H S (i := 2) rfl rfl rfl (by omega) (by omega) sz_42 rfl ?_) | (refine list_store_own H S (i := 3) rfl rfl rfl (by omega) (by omega) sz_42 rfl ?_)
      clear H a S; intro _ a S H
      refine hK10 _ _ ?_
      clear hK10 K10
      have hb1 := hB x1 x2 (by omega) (by omega); have hb2 := hB x2 x1 (by omega) (by omega)
      replace H := H.keep [2, 3, 4, 5, 12, 14] rfl
      refine seq_still (fun K11 hK11 => ?_)
      refine still_does H rfl (does_move rfl) ?_; clear H a; intro a H
      refine still_does H rfl (by first | exact does_field_pt fo_42_0 rfl | exact does_field fo_42_0 rfl) ?_; clear H a; intro a H
      refine still_does H rfl (does_load one_3 rfl (by first | exact boxM.rd S (i := 0) rfl rfl | exact boxM.rd S (i := 1) rfl rfl | exact boxM.rd S (i := 2) rfl rfl | exact boxM.rd S (i := 3) rfl rfl)) ?_; clear H a; intro a H
      refine still_does H rfl (by first | exact does_field_pt fo_42_1 rfl | exact does_field fo_42_1 rfl) ?_; clear H a; intro a H
      refine still_does H rfl (does_load one_3 rfl (by first | exact boxM.rd S (i := 0) rfl rfl | exact boxM.rd S (i := 1) rfl rfl | exact boxM.rd S (i := 2) rfl rfl | exact boxM.rd S (i := 3) rfl rfl)) ?_; clear H a; intro a H
      refine still_call H rfl rfl Try.func63 rfl rfl (chain_within _ _ _ _) ?_; clear H a; intro a H
      refine still_does H rfl (does_not rfl) ?_; clear H a; intro a H
      refine wpStill_nil (hK11 _ ?_)
      clear hK11 K11
      refine cond_ H rfl (fun hc3 => ?_) (fun hc3 => ?_)
      · try simp only [Bool.or_eq_true, Bool.and_eq_true, Bool.not_eq_true', Bool.or_eq_false_iff, Bool.and_eq_false_iff, Bool.not_eq_false', decide_eq_true_eq, decide_eq_false_iff_not, Int.not_lt, Int.not_le] at hc3
        replace H := H.keep [] rfl
        refine seq_still (fun K12 hK12 => ?_)
        refine still_does H rfl (does_assign rfl) ?_; clear H a; intro a H
        refine still_does H rfl (does_assign rfl) ?_; clear H a; intro a H
        refine wpStill_nil (hK12 _ ?_)
        clear hK12 K12
        refine wp_ret ?_
        refine ret2 (fn := Try.f19) rfl H rfl rfl ?_
        rw [show witO ⟨m, pitch, limit⟩ l x1 x2 len = .error 1 from by unfold witO; rw [hW]; exact if_neg (show ¬ (-(M x2 x1) ≤ len ∧ len ≤ M x1 x2) by omega)]; exact ⟨rfl, (S.sel [] rfl rfl)⟩
      · try simp only [Bool.or_eq_true, Bool.and_eq_true, Bool.not_eq_true', Bool.or_eq_false_iff, Bool.and_eq_false_iff, Bool.not_eq_false', decide_eq_true_eq, decide_eq_false_iff_not, Int.not_lt, Int.not_le] at hc3
        refine wp_skip ?_
        refine hK9 _ _ ?_
        have SR := (S.sel [0, 1, 3] rfl rfl)
        refine meet_sr (X := Unit) [5, 12] H rfl (fun x => []) (fun x => [rowsM 3 (m + 1) (m + 1) rb rc (witS M x1 x2 len)]) (fun x => True) SR (fun K14 hK14 => ?_) ?_
        · skip
          replace H := H.keep [2, 3, 4, 5, 12] rfl
          refine seq_still (fun K15 hK15 => ?_)
          refine still_does H rfl (does_move rfl) ?_; clear H a; intro a H
          refine still_does H rfl (does_move rfl) ?_; clear H a; intro a H
          refine still_does H rfl (does_lss rfl rfl) ?_; clear H a; intro a H
          refine wpStill_nil (hK15 _ ?_)
          clear hK15 K15
          refine cond_ H rfl (fun hc4 => ?_) (fun hc4 => ?_)
          · try simp only [Bool.or_eq_true, Bool.and_eq_true, Bool.not_eq_true', Bool.or_eq_false_iff, Bool.and_eq_false_iff, Bool.not_eq_false', decide_eq_true_eq, decide_eq_false_iff_not, Int.not_lt, Int.not_le] at hc4
            replace H := H.keep [2, 3, 4, 5, 12] rfl
            refine one_list ?_
            refine list_does H rfl (does_move rfl) ?_; clear H a; intro a H
            refine list_does H rfl (does_move rfl) ?_; clear H a; intro a H
            refine list_does H rfl (does_move rfl) ?_; clear H a; intro a H
            refine list_does H rfl (does_move rfl) ?_; clear H a; intro a H
            refine list_does H rfl (does_move rfl) ?_; clear H a; intro a H
            refine list_does H rfl (does_build bt_42 rfl rfl) ?_; clear H a; intro a H
            have S1 := (S.sel [1, 2] rfl rfl)
            refine list_call H rfl rfl Try.func64 rfl rfl (web_tighten (m + 1) (m + 1) W rb rc M x1 x2 len len _ _ S1.startR (by omega) (by omega) (by omega) hB (by omega) (by omega)) ?_; clear H a
            rintro _ _ a ⟨rfl, S2⟩ H
            replace S := (S.sel [1, 2, 0, 3] rfl rfl).callR (M := [_, _]) S2; clear S1 S2
            have e9 : tightM M x1 x2 len len = witS M x1 x2 len := by unfold witS; rw [if_pos (by omega)]
            rw [e9] at S
            exact hK14 () a _ (trivial) (S.sel [1, 2, 0, 3] rfl rfl) (H.keep [5, 12] rfl)
          · try simp only [Bool.or_eq_true, Bool.and_eq_true, Bool.not_eq_true', Bool.or_eq_false_iff, Bool.and_eq_false_iff, Bool.not_eq_false', decide_eq_true_eq, decide_eq_false_iff_not, Int.not_lt, Int.not_le] at hc4
            refine wp_skip ?_
            have e9 : M = witS M x1 x2 len := by unfold witS; rw [if_neg (by omega)]
            replace S := rowsM.congr S (i := 2) (M' := witS M x1 x2 len) rfl (fun x y _ _ => by rw [← e9]) (fun _ _ => rfl) (fun _ _ => rfl)
            exact hK14 () a _ (trivial) (S.sel [2, 0, 1, 3] rfl rfl) (H.keep [5, 12] rfl)
        · intro xm a wm hp S H
          obtain ⟨x, rfl⟩ : ∃ y, y = xm := ⟨_, rfl⟩
          clear SR
          have hGs := witS_good (len := len) hG1 (a := x1) (b := x2) (by omega) (by omega) (by omega) (by omega)
          replace H := H.keep [5, 12] rfl
          refine seq_still (fun K17 hK17 => ?_)
          refine still_does H rfl (does_assign rfl) ?_; clear H a; intro a H
          refine wpStill_nil (hK17 _ ?_)
          clear hK17 K17
          refine wp_seq_k (fun K18 hK18 => ?_)
          replace H := H.keep [5, 12, 15] rfl
          refine seq_still (fun K19 hK19 => ?_)
          refine still_does H rfl (by first | exact does_field_pt fo_23_0 rfl | exact does_field fo_23_0 rfl) ?_; clear H a; intro a H
          refine still_does H rfl (does_load one_3 rfl (by first | exact boxM.rd S (i := 0) rfl rfl | exact boxM.rd S (i := 1) rfl rfl | exact boxM.rd S (i := 2) rfl rfl | exact boxM.rd S (i := 3) rfl rfl)) ?_; clear H a; intro a H
          refine still_does H rfl (does_move rfl) ?_; clear H a; intro a H
          refine wpStill_nil (hK19 _ ?_)
          clear hK19 K19
          refine wp_block ?_
          replace S := S.newNil 3 1 (fun q _ => .int .i64 (witN (witS M x1 x2 len) q))
          refine loop_st (X := Nat × Option Addr × Nat) (R0 := _) [12, 53] H rfl (fun ⟨k, A', c'⟩ => [(15, .slice A' k c'), (54, .int .i64 (k : Int))]) (fun ⟨k, A', c'⟩ => [rowsM 3 (m + 1) (m + 1) rb rc (witM (witS M x1 x2 len) k), ownM 3 1 A' k c' (fun q _ => .int .i64 (witN (witS M x1 x2 len) q))]) (fun g ⟨k, A', c'⟩ => k ≤ m ∧ g + k = m) (m) (0, none, 0) ?_ (S.sel [1, 0, 2, 3, 4] rfl rfl) (H.keep [15, 54, 12, 53] rfl) ?_
          · exact ⟨by omega, by omega⟩
          · intro g1 x1 a w1 hp S H K20 hK20
            obtain ⟨k, A', c'⟩ := x1
            dsimp only at hp S H
            replace H := H.keep [12, 15, 53, 54] rfl
            refine seq_still (fun K21 hK21 => ?_)
            refine still_does H rfl (does_lss rfl rfl) ?_; clear H a; intro a H
            refine wpStill_nil (hK21 _ ?_)
            clear hK21 K21
            refine wp_seq_k (fun K22 hK22 => ?_)
            refine cond_ H rfl (fun hc5 => ?_) (fun hc5 => ?_)
            · try simp only [Bool.or_eq_true, Bool.and_eq_true, Bool.not_eq_true', Bool.or_eq_false_iff, Bool.and_eq_false_iff, Bool.not_eq_false', decide_eq_true_eq, decide_eq_false_iff_not, Int.not_lt, Int.not_le] at hc5
              refine wp_skip ?_
              refine hK22 _ _ ?_
              refine wp_seq_k (fun K23 hK23 => ?_)
              refine wp_block ?_
              replace H := H.keep [12, 15, 53, 54] rfl
              refine seq_still (fun K24 hK24 => ?_)
              refine still_does H rfl (does_move rfl) ?_; clear H a; intro a H
              refine still_does H rfl (does_assign rfl) ?_; clear H a; intro a H
              refine wpStill_nil (hK24 _ ?_)
              clear hK24 K24
              have hGk := witM_good hGs k (by omega); have hb3 := hGk.bdd (k + 1) k (by omega) (by omega)
              replace H := H.keep [12, 15, 16, 53, 54] rfl
              refine seq_list (fun K25 hK25 => ?_)
              refine list_does H rfl (does_move rfl) ?_; clear H a; intro a H
              refine list_does H rfl (does_move rfl) ?_; clear H a; intro a H
              refine list_does H rfl (does_move rfl) ?_; clear H a; intro a H
              refine list_does H rfl (does_add rfl rfl (by unfold i64ok; omega)) ?_; clear H a; intro a H
              have S1 := (S.sel [3, 0] rfl rfl)
              refine list_call H rfl rfl Try.func62 rfl rfl (web_span (m + 1) (m + 1) W rb rc (witM (witS M x1 x2 len) k) k (k + 1) _ _ S1.startR (by omega) (by omega) (fun x y hx hy => by have := hGk.bdd x y hx hy; omega)) ?_; clear H a
              rintro _ _ a ⟨rfl, S2⟩ H
              replace S := (S.sel [3, 0, 1, 2, 4] rfl rfl).callR (M := [_, _]) S2; clear S1 S2
              refine list_does H rfl (does_fieldv Try.underlying42 rfl one_3 rfl rfl) ?_; clear H a; intro a H
              refine list_does H rfl (does_assign rfl) ?_; clear H a; intro a H
              refine hK25 _ _ ?_
              clear hK25 K25
              replace H := H.keep [12, 15, 16, 17, 53, 54] rfl
              refine seq_list (fun K26 hK26 => ?_)
              refine list_does H rfl (does_move rfl) ?_; clear H a; intro a H
              refine list_does H rfl (does_move rfl) ?_; clear H a; intro a H
              refine list_does H rfl (does_move rfl) ?_; clear H a; intro a H
              refine list_does H rfl (does_add rfl rfl (by unfold i64ok; omega)) ?_; clear H a; intro a H
              refine list_does H rfl (does_move rfl) ?_; clear H a; intro a H
              refine list_does H rfl (does_move rfl) ?_; clear H a; intro a H
              refine list_does H rfl (does_build bt_42 rfl rfl) ?_; clear H a; intro a H
              have S1 := (S.sel [0, 1] rfl rfl)
              refine list_call H rfl rfl Try.func64 rfl rfl (web_tighten (m + 1) (m + 1) W rb rc (witM (witS M x1 x2 len) k) k (k + 1) (witN (witS M x1 x2 len) k) (witN (witS M x1 x2 len) k) _ _ S1.startR (by omega) (by omega) (by omega) hGk.bdd (by unfold witN; omega) (by unfold witN; omega)) ?_; clear H a
              rintro _ _ a ⟨rfl, S2⟩ H
              replace S := (S.sel [0, 1, 2, 3, 4] rfl rfl).callR (M := [_, _]) S2; clear S1 S2
              refine hK26 _ _ ?_
              clear hK26 K26
              replace H := H.keep [12, 15, 17, 53, 54] rfl
              refine one_list ?_
              refine list_does H rfl (does_move rfl) ?_; clear H a; intro a H
              refine list_does H rfl (does_move rfl) ?_; clear H a; intro a H
              refine list_build' H rfl S sl_29 sz_3 ze_3 rfl rfl rfl rfl rfl rfl rfl rfl rfl ?_; clear H a S; intro A1 _ a hA1 S H
              refine list_append H rfl S sl_29 sz_3 ze_3 by_3 rfl rfl (i := 3) rfl rfl rfl (ownM.inS S (i := 0) rfl) (one_vs (one rfl)) (by omega) (by omega) ?_; clear H a S; intro A2 c2 _ a S H
              replace S := S.recell (i := 3) rfl (capp_one (one rfl))
              refine list_does H rfl (does_assign rfl) ?_; clear H a; intro a H
              refine hK23 _ _ ?_
              replace H := H.keep [12, 15, 53, 54] rfl
              refine one_still ?_
              refine still_does H rfl (does_add rfl rfl (by unfold i64ok; omega)) ?_; clear H a; intro a H
              refine still_does H rfl (does_move rfl) ?_; clear H a; intro a H
              refine wpStill_nil ?_
              exact hK20 (g1 - 1) (k + 1, _, _) a _ (by omega) (by omega) (S.sel [2, 3, 4, 1, 5] rfl rfl) (H.keep [15, 54, 12, 53] rfl)
            · try simp only [Bool.or_eq_true, Bool.and_eq_true, Bool.not_eq_true', Bool.or_eq_false_iff, Bool.and_eq_false_iff, Bool.not_eq_false', decide_eq_true_eq, decide_eq_false_iff_not, Int.not_lt, Int.not_le] at hc5
              refine wp_exit ?_
              refine hK18 _ _ ?_
              replace H := H.keep [15] rfl
              refine seq_still (fun K29 hK29 => ?_)
              refine still_does H rfl (does_move rfl) ?_; clear H a; intro a H
              refine still_does H rfl (does_assign rfl) ?_; clear H a; intro a H
              refine still_does H rfl (does_assign rfl) ?_; clear H a; intro a H
              refine wpStill_nil (hK29 _ ?_)
              clear hK29 K29
              refine wp_ret ?_
              refine ret2 (fn := Try.f19) rfl H rfl rfl ?_
              have hk9 : m = k := by omega
              subst hk9
              rw [show witO ⟨m, pitch, limit⟩ l x1 x2 len = .ok (witN (witS M x1 x2 len)) from by unfold witO; rw [hW]; exact if_pos (show (-(M x2 x1) ≤ len ∧ len ≤ M x1 x2) by omega)]; exact ⟨A', c', rfl, (S.sel [1] rfl rfl)⟩

end Go.Proofs.Ytlejjfhgfajoiaa
