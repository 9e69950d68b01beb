/- ChSl. Printed by gen.py. -/
import Derived.Test.YtlejjfhgfajoiaaChSk
namespace Go.Proofs.Ytlejjfhgfajoiaa
open Go.RowKit
set_option linter.unusedVariables false
set_option linter.unusedSimpArgs false


set_option maxRecDepth 100000 in
set_option maxHeartbeats 1000000 in
theorem law_ChainSkews (al ap ax : Int) (k : List Gauge) (A : Option Addr) (cp : Nat) (bl bp bx : Int) (l : List Gauge) (B : Option Addr) (cq : Nat) (every : Int) (w : World) (hk : InS w noF 4 A k.length (gcell k)) (hkn : k.length ≤ 9223372036854775807) (hl : InS w noF 4 B l.length (gcell l)) (hln : l.length ≤ 9223372036854775807) :
    Calls Try.prog 8 [.agg [.int .i64 al, .int .i64 ap, .int .i64 ax, .slice A k.length cp].toArray, .agg [.int .i64 bl, .int .i64 bp, .int .i64 bx, .slice B l.length cq].toArray, .int .i64 every].toArray w (Ret (fun v w' => v = .bool true ∧ St w noF [] w')) := by
  refine enter Try.func8 rfl Try.ntmps8 rfl (fun a H => ?_)
  have S := St.start w
  refine seq_list (fun K1 hK1 => ?_)
  refine list_box H rfl S rfl rfl ?_; clear H a S; intro b3 _ a hb3 hbw3 S H
  refine list_box H rfl S rfl rfl ?_; clear H a S; intro b4 _ a hb4 hbw4 S H
  refine list_does H rfl (does_assign rfl) ?_; clear H a; intro a H
  refine hK1 _ _ ?_
  clear hK1 K1
  refine wp_seq_k (fun K2 hK2 => ?_)
  replace H := H.keep [2, 3, 4] rfl
  refine seq_still (fun K3 hK3 => ?_)
  refine still_does H rfl (by first | exact does_field_pt fo_46_1 rfl | exact does_field fo_46_1 rfl) ?_; clear H a; intro a H
  refine still_does H rfl (does_load one_24 rfl (by first | exact boxM.rd S (i := 0) rfl rfl | exact boxM.rd S (i := 1) rfl rfl)) ?_; clear H a; intro a H
  refine still_call H rfl rfl Try.func17 rfl rfl (law_Far A k.length cp _) ?_; clear H a; intro a H
  refine still_does H rfl (does_move rfl) ?_; clear H a; intro a H
  apply still_guard (i := 3) (g := 16) (t := 19) (b := false) 3 H rfl rfl (by kernel_rfl) (by kernel_rfl) rfl rfl
  case h1 =>
    intro hg4
    refine still_yes' H rfl rfl (by assumption) ?_
    refine still_does H rfl (by first | exact does_field_pt fo_46_1 rfl | exact does_field fo_46_1 rfl) ?_; intro a H
    refine still_yes' H rfl rfl (by assumption) ?_
    refine still_does H rfl (does_load one_24 rfl (by first | exact boxM.rd S (i := 0) rfl rfl | exact boxM.rd S (i := 1) rfl rfl)) ?_; intro a H
    refine still_yes' H rfl rfl (by assumption) ?_
    refine still_call H rfl rfl Try.func17 rfl rfl (law_Far B l.length cq _) ?_; intro a H
    exact wpStill_nil (H.strip 3 rfl rfl)
  case k =>
    clear H a; intro a H
    refine still_does H rfl (by first | exact does_or rfl rfl rfl | exact does_pick rfl rfl rfl) ?_; clear H a; intro a H
    refine wpStill_nil (hK3 _ ?_)
    clear hK3 K3
    refine cond_ H rfl (fun hc1 => ?_) (fun hc1 => ?_)
    · try simp only [Bool.or_eq_true, Bool.and_eq_true, Bool.not_eq_true', Bool.or_eq_false_iff, Bool.and_eq_false_iff, Bool.not_eq_false', decide_eq_true_eq, decide_eq_false_iff_not, Int.not_lt, Int.not_le] at hc1
      replace H := H.keep [] rfl
      refine seq_list (fun K4 hK4 => ?_)
      refine list_call H rfl rfl Try.func18 rfl rfl (law_works _) ?_; clear H a
      rintro _ _ a ⟨rfl, S2⟩ H
      replace S := S.call S2; clear S2
      refine list_does H rfl (does_assign rfl) ?_; clear H a; intro a H
      refine hK4 _ _ ?_
      clear hK4 K4
      refine wp_ret ?_
      refine ret1 (fn := Try.f8) rfl H rfl ?_
      exact ⟨rfl, (S.sel [] rfl rfl)⟩
    · try simp only [Bool.or_eq_true, Bool.and_eq_true, Bool.not_eq_true', Bool.or_eq_false_iff, Bool.and_eq_false_iff, Bool.not_eq_false', decide_eq_true_eq, decide_eq_false_iff_not, Int.not_lt, Int.not_le] at hc1
      refine wp_skip ?_
      refine hK2 _ _ ?_
      replace H := H.keep [2, 3, 4] rfl
      replace S := S.drew
      refine seq_wt 999999 (.q 0 (.q 1 (.q 2 (.q 3 (.q 5 (.q 6 (.q 7 (.q 8 (.q 10 (.e 4 (.e 9 (.e 11 (.q 12 (.q 13 (.q 14 (.q 15 (.q 16 (.q 17 (.q 18 .nil))))))))))))))))))) (by kernel_rfl) (by kernel_rfl) (S.sel [0, 1] rfl rfl) (fun K5 hK5 => ?_)
      refine wt_does H rfl rfl (fun _ S => by first | exact does_field_pt fo_46_0 rfl | exact does_field fo_46_0 rfl) ?_; clear H a; intro a H
      refine wt_does H rfl rfl (fun _ S => by first | exact does_loadBox agg_23 sz_23 rfl S (i := 0) rfl rfl | exact does_loadBox agg_23 sz_23 rfl S (i := 1) rfl rfl) ?_; clear H a; intro a H
      refine wt_does H rfl rfl (fun _ S => by first | exact does_field_pt fo_46_1 rfl | exact does_field fo_46_1 rfl) ?_; clear H a; intro a H
      refine wt_does H rfl rfl (fun _ S => does_load one_24 rfl (by first | exact boxM.rd S (i := 0) rfl rfl | exact boxM.rd S (i := 1) rfl rfl)) ?_; clear H a; intro a H
      refine wt_does H rfl rfl (fun _ S => by first | exact does_field_pt fo_46_0 rfl | exact does_field fo_46_0 rfl) ?_; clear H a; intro a H
      refine wt_does H rfl rfl (fun _ S => by first | exact does_loadBox agg_23 sz_23 rfl S (i := 0) rfl rfl | exact does_loadBox agg_23 sz_23 rfl S (i := 1) rfl rfl) ?_; clear H a; intro a H
      refine wt_does H rfl rfl (fun _ S => by first | exact does_field_pt fo_46_1 rfl | exact does_field fo_46_1 rfl) ?_; clear H a; intro a H
      refine wt_does H rfl rfl (fun _ S => does_load one_24 rfl (by first | exact boxM.rd S (i := 0) rfl rfl | exact boxM.rd S (i := 1) rfl rfl)) ?_; clear H a; intro a H
      refine wt_does H rfl rfl (fun _ S => does_move rfl) ?_; clear H a; intro a H
      refine wt_eff rfl ?_
      refine list_call H rfl rfl Try.func20 rfl rfl (ref_CopyGauges k A cp _ (hk.now S) (by omega)) ?_; clear H a
      rintro _ _ a ⟨A2, c2, rfl, S2⟩ H
      replace S := S.call S2; clear S2
      refine wpList_nil (And.intro (Or.inr (S.sel [1, 2] rfl rfl)) ?_)
      refine wt_eff rfl ?_
      refine list_call H rfl rfl Try.func20 rfl rfl (ref_CopyGauges l B cq _ (hl.now S) (by omega)) ?_; clear H a
      rintro _ _ a ⟨A3, c3, rfl, S2⟩ H
      replace S := S.call S2; clear S2
      refine wpList_nil (And.intro (Or.inr (S.sel [2, 3] rfl rfl)) ?_)
      refine wt_eff rfl ?_
      refine list_call H rfl rfl Try.func34 rfl rfl (chain_Skew al ap ax k A2 c2 bl bp bx l A3 c3 every _ (ownM.inS S (i := 1) rfl) hkn (ownM.inS S (i := 0) rfl) hln) ?_; clear H a
      rintro _ _ a ⟨rfl, S2⟩ H
      replace S := S.call S2; clear S2
      refine wpList_nil (And.intro (Or.inr (S.sel [2, 3] rfl rfl)) ?_)
      refine wt_does H rfl rfl (fun _ S => does_move rfl) ?_; clear H a; intro a H
      refine wt_does H rfl rfl (fun _ S => does_extract rfl rfl) ?_; clear H a; intro a H
      refine wt_does H rfl rfl (fun _ S => does_extract rfl rfl) ?_; clear H a; intro a H
      refine wt_does H rfl rfl (fun _ S => does_extract rfl rfl) ?_; clear H a; intro a H
      refine wt_does H rfl rfl (fun _ S => does_assign rfl) ?_; clear H a; intro a H
      refine wt_does H rfl rfl (fun _ S => does_assign rfl) ?_; clear H a; intro a H
      refine wt_does H rfl rfl (fun _ S => does_assign rfl) ?_; clear H a; intro a H
      refine wt_nil ?_
      refine hK5 _ _ ?_
      clear hK5 K5
      replace H := H.keep [2, 3, 4, 7, 8, 9] rfl
      refine seq_list (fun K6 hK6 => ?_)
      refine list_does H rfl (by first | exact does_field_pt fo_46_0 rfl | exact does_field fo_46_0 rfl) ?_; clear H a; intro a H
      refine list_does H rfl (by first | exact does_loadBox agg_23 sz_23 rfl S (i := 0) rfl rfl | exact does_loadBox agg_23 sz_23 rfl S (i := 1) rfl rfl | exact does_loadBox agg_23 sz_23 rfl S (i := 2) rfl rfl | exact does_loadBox agg_23 sz_23 rfl S (i := 3) rfl rfl) ?_; clear H a; intro a H
      refine list_does H rfl (by first | exact does_field_pt fo_46_1 rfl | exact does_field fo_46_1 rfl) ?_; clear H a; intro a H
      refine list_does H rfl (does_load one_24 rfl (by first | exact boxM.rd S (i := 0) rfl rfl | exact boxM.rd S (i := 1) rfl rfl | exact boxM.rd S (i := 2) rfl rfl | exact boxM.rd S (i := 3) rfl rfl)) ?_; clear H a; intro a H
      refine list_does H rfl (by first | exact does_field_pt fo_46_0 rfl | exact does_field fo_46_0 rfl) ?_; clear H a; intro a H
      refine list_does H rfl (by first | exact does_loadBox agg_23 sz_23 rfl S (i := 0) rfl rfl | exact does_loadBox agg_23 sz_23 rfl S (i := 1) rfl rfl | exact does_loadBox agg_23 sz_23 rfl S (i := 2) rfl rfl | exact does_loadBox agg_23 sz_23 rfl S (i := 3) rfl rfl) ?_; clear H a; intro a H
      refine list_does H rfl (by first | exact does_field_pt fo_46_1 rfl | exact does_field fo_46_1 rfl) ?_; clear H a; intro a H
      refine list_does H rfl (does_load one_24 rfl (by first | exact boxM.rd S (i := 0) rfl rfl | exact boxM.rd S (i := 1) rfl rfl | exact boxM.rd S (i := 2) rfl rfl | exact boxM.rd S (i := 3) rfl rfl)) ?_; clear H a; intro a H
      refine list_does H rfl (does_move rfl) ?_; clear H a; intro a H
      refine list_call H rfl rfl Try.func35 rfl rfl (ref_Skew al ap ax k A cp bl bp bx l B cq every _ (hk.now S) hkn (hl.now S) hln) ?_; clear H a
      rintro _ _ a ⟨rfl, S2⟩ H
      replace S := S.call S2; clear S2
      refine list_does H rfl (does_move rfl) ?_; clear H a; intro a H
      refine list_does H rfl (does_extract rfl rfl) ?_; clear H a; intro a H
      refine list_does H rfl (does_extract rfl rfl) ?_; clear H a; intro a H
      refine list_does H rfl (does_extract rfl rfl) ?_; clear H a; intro a H
      refine list_does H rfl (does_assign rfl) ?_; clear H a; intro a H
      refine list_does H rfl (does_assign rfl) ?_; clear H a; intro a H
      refine list_does H rfl (does_assign rfl) ?_; clear H a; intro a H
      refine hK6 _ _ ?_
      clear hK6 K6
      replace H := H.keep [7, 8, 9, 10, 11, 12] rfl
      refine seq_list (fun K7 hK7 => ?_)
      refine list_does H rfl (does_move rfl) ?_; clear H a; intro a H
      refine list_does H rfl (does_move rfl) ?_; clear H a; intro a H
      refine list_does H rfl (does_eql_same rfl rfl rfl) ?_; clear H a; intro a H
      refine list_does H rfl (does_move rfl) ?_; clear H a; intro a H
      refine list_yes H rfl rfl ?_
      refine list_does H rfl (does_move rfl) ?_; clear H a; intro a H
      refine list_yes H rfl rfl ?_
      refine list_does H rfl (does_move rfl) ?_; clear H a; intro a H
      refine list_yes H rfl rfl ?_
      refine list_does H rfl (does_eql_same rfl rfl rfl) ?_; clear H a; intro a H
      refine list_does H rfl (by first | exact does_and rfl rfl rfl | exact does_pick rfl rfl rfl) ?_; clear H a; intro a H
      refine list_does H rfl (does_move rfl) ?_; clear H a; intro a H
      refine list_yes H rfl rfl ?_
      refine list_does H rfl (does_move rfl) ?_; clear H a; intro a H
      refine list_yes H rfl rfl ?_
      refine list_does H rfl (does_move rfl) ?_; clear H a; intro a H
      refine list_yes H rfl rfl ?_
      refine list_does H rfl (does_eql_same rfl rfl rfl) ?_; clear H a; intro a H
      refine list_does H rfl (by first | exact does_and rfl rfl rfl | exact does_pick rfl rfl rfl) ?_; clear H a; intro a H
      refine list_does H rfl (does_move rfl) ?_; clear H a; intro a H
      refine list_yes H rfl rfl ?_
      refine list_call H rfl rfl Try.func18 rfl rfl (law_works _) ?_; clear H a
      rintro _ _ a ⟨rfl, S2⟩ H
      replace S := S.call S2; clear S2
      refine list_does H rfl (by first | exact does_and rfl rfl rfl | exact does_pick rfl rfl rfl) ?_; clear H a; intro a H
      refine list_does H rfl (does_assign rfl) ?_; clear H a; intro a H
      refine hK7 _ _ ?_
      clear hK7 K7
      refine wp_ret ?_
      refine ret1 (fn := Try.f8) rfl H rfl ?_
      exact ⟨rfl, (S.sel [] rfl rfl)⟩

end Go.Proofs.Ytlejjfhgfajoiaa
