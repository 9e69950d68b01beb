/- ChNa. Printed by gen.py. -/
import Derived.Test.YtlejjfhgfajoiaaChV
import Derived.Test.YtlejjfhgfajoiaaGrd
import Derived.Test.YtlejjfhgfajoiaaChLv
namespace Go.Proofs.Ytlejjfhgfajoiaa
open Go.RowKit
set_option linter.unusedVariables false
set_option linter.unusedSimpArgs false


theorem run_of {c : Chain} {l : List Gauge} {M : IM} {a b : Int} (h : wholeO c l true = .ok M) (hr : isRunB c a b = true) : runO c l a b = (-(M b.toNat a.toNat), M a.toNat b.toNat, 0) := by
  unfold runO
  rw [hr, h]
theorem run_bad {c : Chain} {l : List Gauge} {e a b : Int} (h : wholeO c l true = .error e) (hr : isRunB c a b = true) : runO c l a b = (0, 0, e) := by
  unfold runO
  rw [hr, h]
theorem check_app {c : Chain} {l : List Gauge} {g : Gauge} (h : checkE c (l ++ [g]) = 0) : checkE c l = 0 := by
  obtain ⟨h1, h2, h3⟩ := checkE_ok h
  simp only [List.length_append, List.length_cons, List.length_nil] at h2
  rw [List.all_append, Bool.and_eq_true] at h3
  unfold checkE
  rw [if_pos h1, if_pos (by omega), if_pos h3.1]
/-- With a gauge more: none; or a web within that of before. -/
theorem whole_app {c : Chain} {l : List Gauge} {g : Gauge} (h : checkE c (l ++ [g]) = 0) : wholeO c (l ++ [g]) true = .error 3 ∨ ∃ M M', wholeO c (l ++ [g]) true = .ok M' ∧ wholeO c l true = .ok M ∧ (∀ x y, M' x y ≤ M x y) ∧ Good c.n M ∧ Good c.n M' := by
  have h0 := check_app h
  cases hw : weaveW c (l ++ [g]) yes with
  | none => left; unfold wholeO; rw [if_neg (by omega), if_pos rfl, hw]
  | some M' =>
    right
    cases hl : weaveW c l yes with
    | none =>
      exfalso
      unfold weaveW at hw hl
      have h1 := gto_app (n := c.n) (g := g) (p := yes) (M := linksTo c c.links.toNat) l.length (Nat.le_refl _)
      rw [hl] at h1
      rw [gto_none h1 (l ++ [g]).length (by simp)] at hw
      cases hw
    | some M =>
      refine ⟨M, M', by unfold wholeO; rw [if_neg (by omega), if_pos rfl, hw], by unfold wholeO; rw [if_neg (by omega), if_pos rfl, hl], fun x y => ?_, weave_good h0 hl, weave_good h hw⟩
      rw [weave_app hl] at hw
      unfold gOne at hw
      split at hw
      · cases hw; exact tight_le _ _ _ _ _ _ _
      · cases hw
/-- What Links leaves, whatever it is. -/
theorem lnk_uni {o : Except Int IM} {w w' : World} {n : Nat} {v : Value} (h : LnkR w n o v w') : ∃ A' n' c' e f, v = .tuple #[.slice A' n' c', .int .i64 e] ∧ St w noF [ownM 42 2 A' n' c' f] w' := by
  cases o with
  | error e => obtain ⟨rfl, S⟩ := h; exact ⟨none, 0, 0, e, fun _ _ => undef, rfl, S.newNil 42 2 _⟩
  | ok M => obtain ⟨A', c', rfl, S⟩ := h; exact ⟨A', n, c', 0, _, rfl, S⟩
theorem chain_LinksU (links pitch limit : Int) (l : List Gauge) (A : Option Addr) (cp : Nat) (w : World) (hl : InS w noF 4 A l.length (gcell l)) (hn : l.length ≤ 9223372036854775807) :
    Calls Try.prog 25 [.agg [.int .i64 links, .int .i64 pitch, .int .i64 limit].toArray, .slice A l.length cp].toArray w (Ret fun v w' => ∃ A' n' c' e f, v = .tuple #[.slice A' n' c', .int .i64 e] ∧ St w noF [ownM 42 2 A' n' c' f] w') :=
  ret_imp (chain_Links links pitch limit l A cp w hl hn) fun _ _ h => lnk_uni h


set_option maxRecDepth 100000 in
set_option maxHeartbeats 1000000 in
theorem ref_CopyGaugesR (l : List Gauge) (A : Option Addr) (cp : Nat) (w : World) (hl : InS w noF 4 A l.length (gcell l)) (hn : l.length * 32 ≤ 140737488351232) :
    Calls Try.prog 20 [.slice A l.length cp].toArray w (Ret (fun v w' => ∃ A' c', v = .slice A' l.length c' ∧ St w noF [ownM 48 4 A' l.length c' (gcell l)] w')) := by
  have hmx : maxLen = 9223372036854775807 := rfl
  refine enter Try.func20 rfl Try.ntmps20 rfl (fun a H => ?_)
  have S := St.start w
  refine seq_still (fun K1 hK1 => ?_)
  refine still_does H rfl (does_assign rfl) ?_; clear H a; intro a H
  refine wpStill_nil (hK1 _ ?_)
  clear hK1 K1
  replace H := H.keep [0] rfl
  refine seq_list (fun K2 hK2 => ?_)
  refine list_build0 H rfl S sl_24 sz_48 (gcell l) ?_; clear H a S; intro A1 _ a S H
  refine list_does H rfl (does_move rfl) ?_; clear H a; intro a H
  refine list_append H rfl S sl_24 sz_48 ze_48 by_48 rfl rfl (i := 0) rfl rfl rfl (hl.now S) (gcell_one l) (by omega) (by omega) ?_; clear H a S; intro A2 c2 _ a S H
  rw [Nat.zero_add] at H
  replace S := S.recell (i := 0) (cell' := gcell l) (by rw [Nat.zero_add]; rfl) (fun k j hk hj => by unfold capp; rw [if_neg (by omega)]; rfl)
  refine list_does H rfl (does_assign rfl) ?_; clear H a; intro a H
  refine hK2 _ _ ?_
  clear hK2 K2
  refine wp_ret ?_
  refine ret1 (fn := Try.f20) rfl H rfl ?_
  exact ⟨_, _, rfl, (S.sel [0] rfl rfl)⟩

set_option maxRecDepth 100000 in
set_option maxHeartbeats 1000000 in
theorem law_ChainNarrows (links pitch limit : Int) (l : List Gauge) (A : Option Addr) (cp : Nat) (gf gt glo ghi sf st sl : Int) (w : World) (hl : InS w noF 4 A l.length (gcell l)) (hn0 : l.length * 32 ≤ 140737488351232) :
    Calls Try.prog 5 [.agg [.int .i64 links, .int .i64 pitch, .int .i64 limit, .slice A l.length cp].toArray, .agg [.int .i64 gf, .int .i64 gt, .int .i64 glo, .int .i64 ghi].toArray, .agg [.int .i64 sf, .int .i64 st, .int .i64 sl].toArray].toArray w (Ret (fun v w' => v = .bool true ∧ St w noF [] w')) := by
  have hmx : maxLen = 9223372036854775807 := rfl
  have hn : l.length ≤ 9223372036854775807 := by omega
  have hLL : (l ++ [(⟨gf, gt, glo, ghi⟩ : Gauge)]).length = l.length + 1 := by simp
  have hnn : (l ++ [(⟨gf, gt, glo, ghi⟩ : Gauge)]).length ≤ 9223372036854775807 := by omega
  refine enter Try.func5 rfl Try.ntmps5 rfl (fun a H => ?_)
  have S := St.start w
  refine seq_list (fun K1 hK1 => ?_)
  refine list_box H rfl S rfl rfl ?_; clear H a S; intro b3 _ a hb3 hbw3 S H
  refine list_box H rfl S rfl rfl ?_; clear H a S; intro b4 _ a hb4 hbw4 S H
  refine list_box H rfl S rfl rfl ?_; clear H a S; intro b5 _ a hb5 hbw5 S H
  refine list_does H rfl (does_assign rfl) ?_; clear H a; intro a H
  refine hK1 _ _ ?_
  clear hK1 K1
  replace H := H.keep [3, 4, 5] rfl
  replace S := S.drew
  refine seq_wq [(0, true), (1, true), (2, true), (3, true), (4, false), (5, false), (6, true)] (by kernel_rfl) (by kernel_rfl) (S.sel [0, 1, 2] rfl rfl) (fun K2 hK2 => ?_)
  refine wq_does H rfl rfl (fun _ S => by first | exact does_field_pt fo_46_0 rfl | exact does_field fo_46_0 rfl) ?_; clear H a; intro a H
  refine wq_does H rfl rfl (fun _ S => by first | exact does_loadBox agg_23 sz_23 rfl S (i := 0) rfl rfl | exact does_loadBox agg_23 sz_23 rfl S (i := 1) rfl rfl | exact does_loadBox agg_23 sz_23 rfl S (i := 2) rfl rfl) ?_; clear H a; intro a H
  refine wq_does H rfl rfl (fun _ S => by first | exact does_field_pt fo_46_1 rfl | exact does_field fo_46_1 rfl) ?_; clear H a; intro a H
  refine wq_does H rfl rfl (fun _ S => does_load one_24 rfl (by first | exact boxM.rd S (i := 0) rfl rfl | exact boxM.rd S (i := 1) rfl rfl | exact boxM.rd S (i := 2) rfl rfl)) ?_; clear H a; intro a H
  refine wq_eff rfl ?_
  refine list_alloc H rfl S ze_23 ?_; clear H a S; intro b7 _ a hb7 hbw7 S H
  refine wpList_nil (And.intro (S.sel [1, 2, 3] rfl rfl) ?_)
  refine wq_eff rfl ?_
  first | (refine list_store H S (i := 0) rfl rfl rfl rfl sz_23 rfl rfl ?_) | (refine list_store H S (i := 1) rfl rfl rfl rfl sz_23 rfl rfl ?_) | (refine list_store H S (i := 2) rfl rfl rfl rfl sz_23 rfl rfl ?_) | (refine list_store H S (i := 3) rfl rfl rfl rfl sz_23 rfl rfl ?_) | (refine list_store_own H S (i := 0) rfl rfl rfl (by omega) (by omega) sz_23 rfl ?_) | (refine list_store_own H S (i := 1) rfl rfl rfl (by omega) (by omega) sz_23 rfl ?_) | (refine list_store_own H S (i := 2) rfl rfl rfl (by omega) (by omega) sz_23 rfl ?_) | (refine list_store_own H S (i := 3) rfl rfl rfl (by omega) (by omega) sz_23 rfl ?_)
  clear H a S; intro _ a S H
  refine wpList_nil (And.intro (S.sel [1, 2, 3] rfl rfl) ?_)
  refine wq_does H rfl rfl (fun _ S => does_assign rfl) ?_; clear H a; intro a H
  refine wq_nil ?_
  refine hK2 _ _ ?_
  clear hK2 K2
  have SR := (S.sel [0, 1, 2, 3] rfl rfl)
  refine meet_sr (X := Option Addr × Nat) [5, 7, 8] H rfl (fun ⟨A9, c9⟩ => [(9, .slice A9 (l ++ [(⟨gf, gt, glo, ghi⟩ : Gauge)]).length c9)]) (fun ⟨A9, c9⟩ => [ownM 48 4 A9 (l ++ [(⟨gf, gt, glo, ghi⟩ : Gauge)]).length c9 (gcell (l ++ [(⟨gf, gt, glo, ghi⟩ : Gauge)]))]) (fun ⟨A9, c9⟩ => True) SR (fun K3 hK3 => ?_) ?_
  · skip
    replace H := H.keep [4, 5, 7, 8] rfl
    replace S := S.drew
    refine one_wt 999999 (.q 0 (.q 2 (.b2 1 (.e 3 (.e 4 (.q 5 .nil))) 3 (.e 1 (.e 4 (.q 5 .nil)))))) (by kernel_rfl) (by kernel_rfl) (S.sel [0, 1, 2, 3] rfl rfl) ?_
    refine wt_does H rfl rfl (fun _ S => does_move rfl) ?_; clear H a; intro a H
    refine wt_does H rfl rfl (fun _ S => by first | exact does_loadBox agg_48 sz_48 rfl S (i := 0) rfl rfl | exact does_loadBox agg_48 sz_48 rfl S (i := 1) rfl rfl | exact does_loadBox agg_48 sz_48 rfl S (i := 2) rfl rfl | exact does_loadBox agg_48 sz_48 rfl S (i := 3) rfl rfl) ?_; clear H a; intro a H
    refine wt_b2 rfl rfl ?_ ?_
    · skip
      refine list_call H rfl rfl Try.func20 rfl rfl (ref_CopyGaugesR l A cp _ (hl.now S) hn0) ?_; clear H a
      rintro _ _ a ⟨A2, c2, rfl, S2⟩ H
      replace S := S.call S2; clear S2
      refine wpList_nil (And.intro (Or.inr (S.sel [1, 2, 3, 4] rfl rfl)) ?_)
      refine wt_eff rfl ?_
      refine list_build' H rfl S sl_24 sz_48 ze_48 rfl rfl rfl rfl rfl rfl rfl rfl rfl ?_; clear H a S; intro A1 _ a hA1 S H
      refine wpList_nil (And.intro (Or.inr (S.sel [2, 3, 4, 5] rfl rfl)) ?_)
      refine wt_eff rfl ?_
      refine list_append H rfl S sl_24 sz_48 ze_48 by_48 rfl rfl (i := 1) rfl rfl rfl (ownM.inS S (i := 0) rfl) (one_vs (four rfl rfl rfl rfl)) (by omega) (by omega) ?_; clear H a S; intro A2 c2 _ a S H
      replace S := S.recell (i := 1) rfl (gcell_app (g := (⟨gf, gt, glo, ghi⟩ : Gauge)) (four rfl rfl rfl rfl))
      have e8 : l.length + 1 = (l ++ [(⟨gf, gt, glo, ghi⟩ : Gauge)]).length := by simp
      rw [e8] at S H
      refine wpList_nil (And.intro (Or.inr (S.sel [2, 3, 4, 5] rfl rfl)) ?_)
      refine wt_does H rfl rfl (fun _ S => does_assign rfl) ?_; clear H a; intro a H
      refine wt_nil ?_
      exact hK3 (_, _) a _ (trivial) (S.sel [1, 2, 3, 4, 5] rfl rfl) (H.keep [9, 5, 7, 8] rfl)
    · skip
      refine list_build' H rfl S sl_24 sz_48 ze_48 rfl rfl rfl rfl rfl rfl rfl rfl rfl ?_; clear H a S; intro A3 _ a hA3 S H
      refine wpList_nil (And.intro (Or.inr (S.sel [1, 2, 3, 4] rfl rfl)) ?_)
      refine wt_eff rfl ?_
      refine list_call H rfl rfl Try.func20 rfl rfl (ref_CopyGaugesR l A cp _ (hl.now S) hn0) ?_; clear H a
      rintro _ _ a ⟨A2, c2, rfl, S2⟩ H
      replace S := S.call S2; clear S2
      refine wpList_nil (And.intro (Or.inr (S.sel [2, 3, 4, 5] rfl rfl)) ?_)
      refine wt_eff rfl ?_
      refine list_append H rfl S sl_24 sz_48 ze_48 by_48 rfl rfl (i := 0) rfl rfl rfl (ownM.inS S (i := 1) rfl) (one_vs (four rfl rfl rfl rfl)) (by omega) (by omega) ?_; clear H a S; intro A4 c4 _ a S H
      replace S := S.recell (i := 0) rfl (gcell_app (g := (⟨gf, gt, glo, ghi⟩ : Gauge)) (four rfl rfl rfl rfl))
      have e8 : l.length + 1 = (l ++ [(⟨gf, gt, glo, ghi⟩ : Gauge)]).length := by simp
      rw [e8] at S H
      refine wpList_nil (And.intro (Or.inr (S.sel [2, 3, 4, 5] rfl rfl)) ?_)
      refine wt_does H rfl rfl (fun _ S => does_assign rfl) ?_; clear H a; intro a H
      refine wt_nil ?_
      exact hK3 (_, _) a _ (trivial) (S.sel [0, 2, 3, 4, 5] rfl rfl) (H.keep [9, 5, 7, 8] rfl)
  · intro xm a wm hp S H
    obtain ⟨A9, c9⟩ := xm
    clear SR
    refine wp_seq_k (fun K5 hK5 => ?_)
    replace H := H.keep [5, 7, 8, 9] rfl
    refine seq_list (fun K6 hK6 => ?_)
    refine list_does H rfl (does_move rfl) ?_; clear H a; intro a H
    refine list_call H rfl rfl Try.func17 rfl rfl (law_Far A l.length cp _) ?_; clear H a
    rintro _ _ a ⟨rfl, rfl⟩ H
    refine list_does H rfl (does_move rfl) ?_; clear H a; intro a H
    apply list_guard (i := 2) (g := 34) (t := 38) (b := false) 4 H S rfl rfl (by kernel_rfl) (by kernel_rfl) rfl rfl
    case h1 =>
      intro hg3
      refine list_yes' H rfl rfl (by assumption) ?_
      refine list_does H rfl (by first | exact does_loadBox agg_23 sz_23 rfl S (i := 0) rfl rfl | exact does_loadBox agg_23 sz_23 rfl S (i := 1) rfl rfl | exact does_loadBox agg_23 sz_23 rfl S (i := 2) rfl rfl | exact does_loadBox agg_23 sz_23 rfl S (i := 3) rfl rfl | exact does_loadBox agg_23 sz_23 rfl S (i := 4) rfl rfl) ?_; intro a H
      refine list_yes' H rfl rfl (by assumption) ?_
      refine list_does H rfl (does_move rfl) ?_; intro a H
      refine list_yes' H rfl rfl (by assumption) ?_
      refine list_call H rfl rfl Try.func24 rfl rfl (ref_Check links pitch limit (l ++ [(⟨gf, gt, glo, ghi⟩ : Gauge)]) _ _ _ (ownM.inS S (i := 0) rfl) hnn) ?_; clear H a
      rintro _ _ a ⟨rfl, S2⟩ H
      replace S := S.call S2; clear S2
      refine list_yes' H rfl rfl (by assumption) ?_
      refine list_does H rfl (does_neq rfl rfl) ?_; intro a H
      exact wpList_nil ⟨H.strip 4 rfl rfl, (S.sel [0, 1, 2, 3, 4] rfl rfl)⟩
    case k =>
      clear H a S; intro a _ H S
      refine list_does H rfl (by first | exact does_or rfl rfl rfl | exact does_pick rfl rfl rfl) ?_; clear H a; intro a H
      refine hK6 _ _ ?_
      clear hK6 K6
      refine cond_ H rfl (fun hc1 => ?_) (fun hc1 => ?_)
      · try simp only [Bool.or_eq_true, Bool.and_eq_true, Bool.not_eq_true', Bool.or_eq_false_iff, Bool.and_eq_false_iff, Bool.not_eq_false', decide_eq_true_eq, decide_eq_false_iff_not, Int.not_lt, Int.not_le] at hc1
        replace H := H.keep [] rfl
        refine seq_list (fun K7 hK7 => ?_)
        refine list_call H rfl rfl Try.func18 rfl rfl (law_works _) ?_; clear H a
        rintro _ _ a ⟨rfl, S2⟩ H
        replace S := S.call S2; clear S2
        refine list_does H rfl (does_assign rfl) ?_; clear H a; intro a H
        refine hK7 _ _ ?_
        clear hK7 K7
        refine wp_ret ?_
        refine ret1 (fn := Try.f5) rfl H rfl ?_
        exact ⟨rfl, (S.sel [] rfl rfl)⟩
      · try simp only [Bool.or_eq_true, Bool.and_eq_true, Bool.not_eq_true', Bool.or_eq_false_iff, Bool.and_eq_false_iff, Bool.not_eq_false', decide_eq_true_eq, decide_eq_false_iff_not, Int.not_lt, Int.not_le] at hc1
        refine wp_skip ?_
        refine hK5 _ _ ?_
        have h0 : checkE (⟨links, pitch, limit⟩ : Chain) (l ++ [(⟨gf, gt, glo, ghi⟩ : Gauge)]) = 0 := by omega
        have hck := checkE_ok h0; have hC := hck.1; unfold chainOk at hC; simp only [decide_eq_true_eq] at hC
        rcases whole_app h0 with hW' | ⟨M, M', hW', hW, hle, hG, hG'⟩
        · skip
          replace H := H.keep [5, 7, 8, 9] rfl
          refine seq_list (fun K8 hK8 => ?_)
          refine list_does H rfl (by first | exact does_loadBox agg_23 sz_23 rfl S (i := 0) rfl rfl | exact does_loadBox agg_23 sz_23 rfl S (i := 1) rfl rfl | exact does_loadBox agg_23 sz_23 rfl S (i := 2) rfl rfl | exact does_loadBox agg_23 sz_23 rfl S (i := 3) rfl rfl | exact does_loadBox agg_23 sz_23 rfl S (i := 4) rfl rfl) ?_; clear H a; intro a H
          refine list_does H rfl (does_move rfl) ?_; clear H a; intro a H
          refine list_call H rfl rfl Try.func25 rfl rfl (chain_LinksU links pitch limit l A cp _ (hl.now S) hn) ?_; clear H a
          rintro _ _ a ⟨A4, n4, c4, e4, f4, rfl, S2⟩ H
          replace S := S.call S2; clear S2
          refine list_does H rfl (does_move rfl) ?_; clear H a; intro a H
          refine list_does H rfl (does_extract rfl rfl) ?_; clear H a; intro a H
          refine list_does H rfl (does_extract rfl rfl) ?_; clear H a; intro a H
          refine list_does H rfl (does_assign rfl) ?_; clear H a; intro a H
          refine list_does H rfl (does_assign rfl) ?_; clear H a; intro a H
          refine hK8 _ _ ?_
          clear hK8 K8
          replace H := H.keep [5, 7, 8, 9, 10, 11] rfl
          refine seq_list (fun K9 hK9 => ?_)
          refine list_does H rfl (by first | exact does_loadBox agg_23 sz_23 rfl S (i := 0) rfl rfl | exact does_loadBox agg_23 sz_23 rfl S (i := 1) rfl rfl | exact does_loadBox agg_23 sz_23 rfl S (i := 2) rfl rfl | exact does_loadBox agg_23 sz_23 rfl S (i := 3) rfl rfl | exact does_loadBox agg_23 sz_23 rfl S (i := 4) rfl rfl | exact does_loadBox agg_23 sz_23 rfl S (i := 5) rfl rfl) ?_; clear H a; intro a H
          refine list_does H rfl (does_move rfl) ?_; clear H a; intro a H
          refine list_call H rfl rfl Try.func25 rfl rfl (ret_imp (chain_Links links pitch limit (l ++ [(⟨gf, gt, glo, ghi⟩ : Gauge)]) _ _ _ (ownM.inS S (i := 1) rfl) hnn) (fun _ _ h => lnk_err hW' h)) ?_; clear H a
          rintro _ _ a ⟨rfl, S2⟩ H
          replace S := S.call S2; clear S2
          refine list_does H rfl (does_move rfl) ?_; clear H a; intro a H
          refine list_does H rfl (does_extract rfl rfl) ?_; clear H a; intro a H
          refine list_does H rfl (does_extract rfl rfl) ?_; clear H a; intro a H
          refine list_does H rfl (does_assign rfl) ?_; clear H a; intro a H
          refine list_does H rfl (does_assign rfl) ?_; clear H a; intro a H
          refine hK9 _ _ ?_
          clear hK9 K9
          refine wp_seq_k (fun K10 hK10 => ?_)
          replace H := H.keep [5, 7, 8, 9, 10, 11, 12, 13] rfl
          refine seq_still (fun K11 hK11 => ?_)
          refine still_does H rfl (does_move rfl) ?_; clear H a; intro a H
          refine still_does H rfl (does_neq rfl rfl) ?_; clear H a; intro a H
          refine wpStill_nil (hK11 _ ?_)
          clear hK11 K11
          refine cond_ H rfl (fun hc2 => ?_) (fun hc2 => ?_)
          · skip
            replace H := H.keep [13] rfl
            refine seq_list (fun K12 hK12 => ?_)
            refine list_does H rfl (does_move rfl) ?_; clear H a; intro a H
            refine list_does H rfl (does_eql rfl rfl) ?_; clear H a; intro a H
            refine list_does H rfl (does_move rfl) ?_; clear H a; intro a H
            refine list_yes H rfl rfl ?_
            refine list_call H rfl rfl Try.func18 rfl rfl (law_works _) ?_; clear H a
            rintro _ _ a ⟨rfl, S2⟩ H
            replace S := S.call S2; clear S2
            refine list_does H rfl (by first | exact does_and rfl rfl rfl | exact does_pick rfl rfl rfl) ?_; clear H a; intro a H
            refine list_does H rfl (does_assign rfl) ?_; clear H a; intro a H
            refine hK12 _ _ ?_
            clear hK12 K12
            refine wp_ret ?_
            refine ret1 (fn := Try.f5) rfl H rfl ?_
            exact ⟨rfl, (S.sel [] rfl rfl)⟩
          · skip
            simp at hc2
        · skip
          replace H := H.keep [5, 7, 8, 9] rfl
          refine seq_list (fun K13 hK13 => ?_)
          refine list_does H rfl (by first | exact does_loadBox agg_23 sz_23 rfl S (i := 0) rfl rfl | exact does_loadBox agg_23 sz_23 rfl S (i := 1) rfl rfl | exact does_loadBox agg_23 sz_23 rfl S (i := 2) rfl rfl | exact does_loadBox agg_23 sz_23 rfl S (i := 3) rfl rfl | exact does_loadBox agg_23 sz_23 rfl S (i := 4) rfl rfl) ?_; clear H a; intro a H
          refine list_does H rfl (does_move rfl) ?_; clear H a; intro a H
          refine list_call H rfl rfl Try.func25 rfl rfl (ret_imp (chain_Links links pitch limit l A cp _ (hl.now S) hn) (fun _ _ h => lnk_ok hW h)) ?_; clear H a
          rintro _ _ a ⟨A4, c4, rfl, S2⟩ H
          replace S := S.call S2; clear S2
          refine list_does H rfl (does_move rfl) ?_; clear H a; intro a H
          refine list_does H rfl (does_extract rfl rfl) ?_; clear H a; intro a H
          refine list_does H rfl (does_extract rfl rfl) ?_; clear H a; intro a H
          refine list_does H rfl (does_assign rfl) ?_; clear H a; intro a H
          refine list_does H rfl (does_assign rfl) ?_; clear H a; intro a H
          refine hK13 _ _ ?_
          clear hK13 K13
          replace H := H.keep [5, 7, 8, 9, 10, 11] rfl
          refine seq_list (fun K14 hK14 => ?_)
          refine list_does H rfl (by first | exact does_loadBox agg_23 sz_23 rfl S (i := 0) rfl rfl | exact does_loadBox agg_23 sz_23 rfl S (i := 1) rfl rfl | exact does_loadBox agg_23 sz_23 rfl S (i := 2) rfl rfl | exact does_loadBox agg_23 sz_23 rfl S (i := 3) rfl rfl | exact does_loadBox agg_23 sz_23 rfl S (i := 4) rfl rfl | exact does_loadBox agg_23 sz_23 rfl S (i := 5) rfl rfl) ?_; clear H a; intro a H
          refine list_does H rfl (does_move rfl) ?_; clear H a; intro a H
          refine list_call H rfl rfl Try.func25 rfl rfl (ret_imp (chain_Links links pitch limit (l ++ [(⟨gf, gt, glo, ghi⟩ : Gauge)]) _ _ _ (ownM.inS S (i := 1) rfl) hnn) (fun _ _ h => lnk_ok hW' h)) ?_; clear H a
          rintro _ _ a ⟨A5, c5, rfl, S2⟩ H
          replace S := S.call S2; clear S2
          refine list_does H rfl (does_move rfl) ?_; clear H a; intro a H
          refine list_does H rfl (does_extract rfl rfl) ?_; clear H a; intro a H
          refine list_does H rfl (does_extract rfl rfl) ?_; clear H a; intro a H
          refine list_does H rfl (does_assign rfl) ?_; clear H a; intro a H
          refine list_does H rfl (does_assign rfl) ?_; clear H a; intro a H
          refine hK14 _ _ ?_
          clear hK14 K14
          refine wp_seq_k (fun K15 hK15 => ?_)
          replace H := H.keep [5, 7, 8, 9, 10, 11, 12, 13] rfl
          refine seq_still (fun K16 hK16 => ?_)
          refine still_does H rfl (does_move rfl) ?_; clear H a; intro a H
          refine still_does H rfl (does_neq rfl rfl) ?_; clear H a; intro a H
          refine wpStill_nil (hK16 _ ?_)
          clear hK16 K16
          refine cond_ H rfl (fun hc3 => ?_) (fun hc3 => ?_)
          · skip
            simp at hc3
          · skip
            refine wp_skip ?_
            refine hK15 _ _ ?_
            refine wp_seq_k (fun K17 hK17 => ?_)
            replace H := H.keep [5, 7, 8, 9, 10, 11, 12] rfl
            refine seq_still (fun K18 hK18 => ?_)
            refine still_does H rfl (does_move rfl) ?_; clear H a; intro a H
            refine still_does H rfl (does_neq rfl rfl) ?_; clear H a; intro a H
            refine still_does H rfl (does_move rfl) ?_; clear H a; intro a H
            apply still_guard (i := 2) (g := 62) (t := 67) (b := false) 5 H rfl rfl (by kernel_rfl) (by kernel_rfl) rfl rfl
            case h1 =>
              intro hg3
              refine still_yes' H rfl rfl (by assumption) ?_
              refine still_does H rfl (does_move rfl) ?_; intro a H
              refine still_yes' H rfl rfl (by assumption) ?_
              refine still_does H rfl (does_len sl_37 rfl) ?_; intro a H
              refine still_yes' H rfl rfl (by assumption) ?_
              refine still_does H rfl (by first | exact does_field_pt fo_23_0 rfl | exact does_field fo_23_0 rfl) ?_; intro a H
              refine still_yes' H rfl rfl (by assumption) ?_
              refine still_does H rfl (does_load one_3 rfl (by first | exact ownM.rd S (i := 1) rfl (by omega) (by omega) | exact ownM.rd S (i := 0) rfl (by omega) (by omega) | exact boxM.rd S (i := 0) rfl rfl | exact boxM.rd S (i := 1) rfl rfl | exact boxM.rd S (i := 2) rfl rfl | exact boxM.rd S (i := 3) rfl rfl | exact boxM.rd S (i := 4) rfl rfl | exact boxM.rd S (i := 5) rfl rfl | exact boxM.rd S (i := 6) rfl rfl)) ?_; intro a H
              refine still_yes' H rfl rfl (by assumption) ?_
              refine still_does H rfl (does_neq rfl rfl) ?_; intro a H
              exact wpStill_nil (H.strip 5 rfl rfl)
            case k =>
              clear H a; intro a H
              refine still_does H rfl (by first | exact does_or rfl rfl rfl | exact does_pick rfl rfl rfl) ?_; clear H a; intro a H
              refine still_does H rfl (does_move rfl) ?_; clear H a; intro a H
              apply still_guard (i := 9) (g := 69) (t := 74) (b := false) 5 H rfl rfl (by kernel_rfl) (by kernel_rfl) rfl rfl
              case h1 =>
                intro hg10
                refine still_yes' H rfl rfl (by assumption) ?_
                refine still_does H rfl (does_move rfl) ?_; intro a H
                refine still_yes' H rfl rfl (by assumption) ?_
                refine still_does H rfl (does_len sl_37 rfl) ?_; intro a H
                refine still_yes' H rfl rfl (by assumption) ?_
                refine still_does H rfl (by first | exact does_field_pt fo_23_0 rfl | exact does_field fo_23_0 rfl) ?_; intro a H
                refine still_yes' H rfl rfl (by assumption) ?_
                refine still_does H rfl (does_load one_3 rfl (by first | exact ownM.rd S (i := 1) rfl (by omega) (by omega) | exact ownM.rd S (i := 0) rfl (by omega) (by omega) | exact boxM.rd S (i := 0) rfl rfl | exact boxM.rd S (i := 1) rfl rfl | exact boxM.rd S (i := 2) rfl rfl | exact boxM.rd S (i := 3) rfl rfl | exact boxM.rd S (i := 4) rfl rfl | exact boxM.rd S (i := 5) rfl rfl | exact boxM.rd S (i := 6) rfl rfl)) ?_; intro a H
                refine still_yes' H rfl rfl (by assumption) ?_
                refine still_does H rfl (does_neq rfl rfl) ?_; intro a H
                exact wpStill_nil (H.strip 5 rfl rfl)
              case k =>
                clear H a; intro a H
                refine still_does H rfl (by first | exact does_or rfl rfl rfl | exact does_pick rfl rfl rfl) ?_; clear H a; intro a H
                refine wpStill_nil (hK18 _ ?_)
                clear hK18 K18
                refine cond_ H rfl (fun hc4 => ?_) (fun hc4 => ?_)
                · try simp only [Bool.or_eq_true, Bool.and_eq_true, Bool.not_eq_true', Bool.or_eq_false_iff, Bool.and_eq_false_iff, Bool.not_eq_false', decide_eq_true_eq, decide_eq_false_iff_not, Int.not_lt, Int.not_le] at hc4
                  exfalso; simp at hc4; omega
                · try simp only [Bool.or_eq_true, Bool.and_eq_true, Bool.not_eq_true', Bool.or_eq_false_iff, Bool.and_eq_false_iff, Bool.not_eq_false', decide_eq_true_eq, decide_eq_false_iff_not, Int.not_lt, Int.not_le] at hc4
                  refine wp_skip ?_
                  refine hK17 _ _ ?_
                  refine wp_seq_k (fun K19 hK19 => ?_)
                  replace H := H.keep [5, 7, 8, 9, 10, 12] rfl
                  refine seq_still (fun K20 hK20 => ?_)
                  refine still_does H rfl (does_assign rfl) ?_; clear H a; intro a H
                  refine wpStill_nil (hK20 _ ?_)
                  clear hK20 K20
                  refine wp_block ?_
                  refine loop_st (X := Nat) (R0 := _) [5, 7, 8, 9, 10, 12] H rfl (fun k => [(14, .int .i64 (k : Int))]) (fun k => []) (fun g k => k ≤ links.toNat ∧ g + k = links.toNat) (links.toNat) 0 ?_ (S.sel [0, 1, 2, 3, 4, 5, 6] rfl rfl) (H.keep [14, 5, 7, 8, 9, 10, 12] rfl) ?_
                  · exact ⟨by omega, by omega⟩
                  · intro g1 x1 a w1 hp S H K21 hK21
                    obtain ⟨k, rfl⟩ : ∃ y, y = x1 := ⟨_, rfl⟩
                    skip
                    refine wp_seq_k (fun K22 hK22 => ?_)
                    replace H := H.keep [5, 7, 8, 9, 10, 12, 14] rfl
                    refine seq_still (fun K23 hK23 => ?_)
                    refine still_does H rfl (does_move rfl) ?_; clear H a; intro a H
                    refine still_does H rfl (by first | exact does_field_pt fo_23_0 rfl | exact does_field fo_23_0 rfl) ?_; clear H a; intro a H
                    refine still_does H rfl (does_load one_3 rfl (by first | exact ownM.rd S (i := 1) rfl (by omega) (by omega) | exact ownM.rd S (i := 0) rfl (by omega) (by omega) | exact boxM.rd S (i := 0) rfl rfl | exact boxM.rd S (i := 1) rfl rfl | exact boxM.rd S (i := 2) rfl rfl | exact boxM.rd S (i := 3) rfl rfl | exact boxM.rd S (i := 4) rfl rfl | exact boxM.rd S (i := 5) rfl rfl | exact boxM.rd S (i := 6) rfl rfl)) ?_; clear H a; intro a H
                    refine still_does H rfl (does_lss rfl rfl) ?_; clear H a; intro a H
                    refine wpStill_nil (hK23 _ ?_)
                    clear hK23 K23
                    refine cond_ H rfl (fun hc5 => ?_) (fun hc5 => ?_)
                    · try simp only [Bool.or_eq_true, Bool.and_eq_true, Bool.not_eq_true', Bool.or_eq_false_iff, Bool.and_eq_false_iff, Bool.not_eq_false', decide_eq_true_eq, decide_eq_false_iff_not, Int.not_lt, Int.not_le] at hc5
                      refine wp_skip ?_
                      refine hK22 _ _ ?_
                      refine wp_seq_k (fun K24 hK24 => ?_)
                      refine wp_block ?_
                      skip
                      replace H := H.keep [5, 7, 8, 9, 10, 12, 14] rfl
                      refine seq_stillD (by kernel_rfl) (by kernel_rfl) (fun K25 hK25 => ?_)
                      replace S := S.drew
                      refine still_does H rfl (does_move rfl) ?_; clear H a; intro a H
                      refine still_does H rfl (does_move rfl) ?_; clear H a; intro a H
                      refine still_does H rfl (by first | exact does_indexN sl_37 sz_42 rfl rfl (by first | exact ownM.adr S (i := 1) rfl (by omega) | exact ownM.adr S (i := 0) rfl (by omega)) (by first | omega | omega) | exact does_index sl_37 sz_42 rfl rfl (by first | exact ownM.adr S (i := 1) rfl (by omega) | exact ownM.adr S (i := 0) rfl (by omega)) (by omega) (by first | omega | omega)) ?_; clear H a; intro a H
                      refine still_does H rfl (by first | exact does_field_pt fo_42_0 rfl | exact does_field fo_42_0 rfl) ?_; clear H a; intro a H
                      refine still_does H rfl (does_load one_3 rfl (by first | exact ownM.rd S (i := 1) rfl (by omega) (by omega) | exact ownM.rd S (i := 0) rfl (by omega) (by omega) | exact boxM.rd S (i := 0) rfl rfl | exact boxM.rd S (i := 1) rfl rfl | exact boxM.rd S (i := 2) rfl rfl | exact boxM.rd S (i := 3) rfl rfl | exact boxM.rd S (i := 4) rfl rfl | exact boxM.rd S (i := 5) rfl rfl | exact boxM.rd S (i := 6) rfl rfl)) ?_; clear H a; intro a H
                      refine still_does H rfl (does_move rfl) ?_; clear H a; intro a H
                      refine still_does H rfl (does_move rfl) ?_; clear H a; intro a H
                      refine still_does H rfl (by first | exact does_indexN sl_37 sz_42 rfl rfl (by first | exact ownM.adr S (i := 1) rfl (by omega) | exact ownM.adr S (i := 0) rfl (by omega)) (by first | omega | omega) | exact does_index sl_37 sz_42 rfl rfl (by first | exact ownM.adr S (i := 1) rfl (by omega) | exact ownM.adr S (i := 0) rfl (by omega)) (by omega) (by first | omega | omega)) ?_; clear H a; intro a H
                      refine still_does H rfl (by first | exact does_field_pt fo_42_0 rfl | exact does_field fo_42_0 rfl) ?_; clear H a; intro a H
                      refine still_does H rfl (does_load one_3 rfl (by first | exact ownM.rd S (i := 1) rfl (by omega) (by omega) | exact ownM.rd S (i := 0) rfl (by omega) (by omega) | exact boxM.rd S (i := 0) rfl rfl | exact boxM.rd S (i := 1) rfl rfl | exact boxM.rd S (i := 2) rfl rfl | exact boxM.rd S (i := 3) rfl rfl | exact boxM.rd S (i := 4) rfl rfl | exact boxM.rd S (i := 5) rfl rfl | exact boxM.rd S (i := 6) rfl rfl)) ?_; clear H a; intro a H
                      refine still_does H rfl (does_lss rfl rfl) ?_; clear H a; intro a H
                      refine still_does H rfl (does_move rfl) ?_; clear H a; intro a H
                      apply still_guard (i := 11) (g := 93) (t := 104) (b := false) 11 H rfl rfl (by kernel_rfl) (by kernel_rfl) rfl rfl
                      case h1 =>
                        intro hg12
                        refine still_yes' H rfl rfl (by assumption) ?_
                        refine still_does H rfl (does_move rfl) ?_; intro a H
                        refine still_yes' H rfl rfl (by assumption) ?_
                        refine still_does H rfl (does_move rfl) ?_; intro a H
                        refine still_yes' H rfl rfl (by assumption) ?_
                        refine still_does H rfl (by first | exact does_indexN sl_37 sz_42 rfl rfl (by first | exact ownM.adr S (i := 1) rfl (by omega) | exact ownM.adr S (i := 0) rfl (by omega)) (by first | omega | omega) | exact does_index sl_37 sz_42 rfl rfl (by first | exact ownM.adr S (i := 1) rfl (by omega) | exact ownM.adr S (i := 0) rfl (by omega)) (by omega) (by first | omega | omega)) ?_; intro a H
                        refine still_yes' H rfl rfl (by assumption) ?_
                        refine still_does H rfl (by first | exact does_field_pt fo_42_1 rfl | exact does_field fo_42_1 rfl) ?_; intro a H
                        refine still_yes' H rfl rfl (by assumption) ?_
                        refine still_does H rfl (does_load one_3 rfl (by first | exact ownM.rd S (i := 1) rfl (by omega) (by omega) | exact ownM.rd S (i := 0) rfl (by omega) (by omega) | exact boxM.rd S (i := 0) rfl rfl | exact boxM.rd S (i := 1) rfl rfl | exact boxM.rd S (i := 2) rfl rfl | exact boxM.rd S (i := 3) rfl rfl | exact boxM.rd S (i := 4) rfl rfl | exact boxM.rd S (i := 5) rfl rfl | exact boxM.rd S (i := 6) rfl rfl)) ?_; intro a H
                        refine still_yes' H rfl rfl (by assumption) ?_
                        refine still_does H rfl (does_move rfl) ?_; intro a H
                        refine still_yes' H rfl rfl (by assumption) ?_
                        refine still_does H rfl (does_move rfl) ?_; intro a H
                        refine still_yes' H rfl rfl (by assumption) ?_
                        refine still_does H rfl (by first | exact does_indexN sl_37 sz_42 rfl rfl (by first | exact ownM.adr S (i := 1) rfl (by omega) | exact ownM.adr S (i := 0) rfl (by omega)) (by first | omega | omega) | exact does_index sl_37 sz_42 rfl rfl (by first | exact ownM.adr S (i := 1) rfl (by omega) | exact ownM.adr S (i := 0) rfl (by omega)) (by omega) (by first | omega | omega)) ?_; intro a H
                        refine still_yes' H rfl rfl (by assumption) ?_
                        refine still_does H rfl (by first | exact does_field_pt fo_42_1 rfl | exact does_field fo_42_1 rfl) ?_; intro a H
                        refine still_yes' H rfl rfl (by assumption) ?_
                        refine still_does H rfl (does_load one_3 rfl (by first | exact ownM.rd S (i := 1) rfl (by omega) (by omega) | exact ownM.rd S (i := 0) rfl (by omega) (by omega) | exact boxM.rd S (i := 0) rfl rfl | exact boxM.rd S (i := 1) rfl rfl | exact boxM.rd S (i := 2) rfl rfl | exact boxM.rd S (i := 3) rfl rfl | exact boxM.rd S (i := 4) rfl rfl | exact boxM.rd S (i := 5) rfl rfl | exact boxM.rd S (i := 6) rfl rfl)) ?_; intro a H
                        refine still_yes' H rfl rfl (by assumption) ?_
                        refine still_does H rfl (does_gtr rfl rfl) ?_; intro a H
                        exact wpStill_nil (H.strip 11 rfl rfl)
                      case k =>
                        clear H a; intro a H
                        refine still_does H rfl (by first | exact does_or rfl rfl rfl | exact does_pick rfl rfl rfl) ?_; clear H a; intro a H
                        refine wpStill_nil (hK25 _ ?_)
                        clear hK25 K25
                        refine cond_ H rfl (fun hc6 => ?_) (fun hc6 => ?_)
                        · try simp only [Bool.or_eq_true, Bool.and_eq_true, Bool.not_eq_true', Bool.or_eq_false_iff, Bool.and_eq_false_iff, Bool.not_eq_false', decide_eq_true_eq, decide_eq_false_iff_not, Int.not_lt, Int.not_le] at hc6
                          exfalso; have h8 := hle (k + 1) k; have h9 := hle k (k + 1); omega
                        · try simp only [Bool.or_eq_true, Bool.and_eq_true, Bool.not_eq_true', Bool.or_eq_false_iff, Bool.and_eq_false_iff, Bool.not_eq_false', decide_eq_true_eq, decide_eq_false_iff_not, Int.not_lt, Int.not_le] at hc6
                          refine wp_skip ?_
                          refine hK24 _ _ ?_
                          replace H := H.keep [5, 7, 8, 9, 10, 12, 14] rfl
                          refine one_still ?_
                          refine still_does H rfl (does_move rfl) ?_; clear H a; intro a H
                          refine still_does H rfl (does_add rfl rfl (by unfold i64ok; omega)) ?_; clear H a; intro a H
                          refine still_does H rfl (does_assign rfl) ?_; clear H a; intro a H
                          refine wpStill_nil ?_
                          exact hK21 (g1 - 1) (k + 1) a _ (by omega) (by omega) (S.sel [0, 1, 2, 3, 4, 5, 6] rfl rfl) (H.keep [14, 5, 7, 8, 9, 10, 12] rfl)
                    · try simp only [Bool.or_eq_true, Bool.and_eq_true, Bool.not_eq_true', Bool.or_eq_false_iff, Bool.and_eq_false_iff, Bool.not_eq_false', decide_eq_true_eq, decide_eq_false_iff_not, Int.not_lt, Int.not_le] at hc5
                      refine wp_exit ?_
                      refine hK19 _ _ ?_
                      refine wp_seq_k (fun K27 hK27 => ?_)
                      replace H := H.keep [5, 7, 8, 9] rfl
                      refine seq_still (fun K28 hK28 => ?_)
                      refine still_does H rfl (by first | exact does_field_pt fo_26_0 rfl | exact does_field fo_26_0 rfl) ?_; clear H a; intro a H
                      refine still_does H rfl (does_load one_3 rfl (by first | exact ownM.rd S (i := 1) rfl (by omega) (by omega) | exact ownM.rd S (i := 0) rfl (by omega) (by omega) | exact boxM.rd S (i := 0) rfl rfl | exact boxM.rd S (i := 1) rfl rfl | exact boxM.rd S (i := 2) rfl rfl | exact boxM.rd S (i := 3) rfl rfl | exact boxM.rd S (i := 4) rfl rfl | exact boxM.rd S (i := 5) rfl rfl | exact boxM.rd S (i := 6) rfl rfl)) ?_; clear H a; intro a H
                      refine still_does H rfl (does_lss rfl rfl) ?_; clear H a; intro a H
                      refine still_does H rfl (does_move rfl) ?_; clear H a; intro a H
                      apply still_guard (i := 3) (g := 109) (t := 114) (b := false) 5 H rfl rfl (by kernel_rfl) (by kernel_rfl) rfl rfl
                      case h1 =>
                        intro hg4
                        refine still_yes' H rfl rfl (by assumption) ?_
                        refine still_does H rfl (by first | exact does_field_pt fo_26_0 rfl | exact does_field fo_26_0 rfl) ?_; intro a H
                        refine still_yes' H rfl rfl (by assumption) ?_
                        refine still_does H rfl (does_load one_3 rfl (by first | exact ownM.rd S (i := 1) rfl (by omega) (by omega) | exact ownM.rd S (i := 0) rfl (by omega) (by omega) | exact boxM.rd S (i := 0) rfl rfl | exact boxM.rd S (i := 1) rfl rfl | exact boxM.rd S (i := 2) rfl rfl | exact boxM.rd S (i := 3) rfl rfl | exact boxM.rd S (i := 4) rfl rfl | exact boxM.rd S (i := 5) rfl rfl | exact boxM.rd S (i := 6) rfl rfl)) ?_; intro a H
                        refine still_yes' H rfl rfl (by assumption) ?_
                        refine still_does H rfl (by first | exact does_field_pt fo_26_1 rfl | exact does_field fo_26_1 rfl) ?_; intro a H
                        refine still_yes' H rfl rfl (by assumption) ?_
                        refine still_does H rfl (does_load one_3 rfl (by first | exact ownM.rd S (i := 1) rfl (by omega) (by omega) | exact ownM.rd S (i := 0) rfl (by omega) (by omega) | exact boxM.rd S (i := 0) rfl rfl | exact boxM.rd S (i := 1) rfl rfl | exact boxM.rd S (i := 2) rfl rfl | exact boxM.rd S (i := 3) rfl rfl | exact boxM.rd S (i := 4) rfl rfl | exact boxM.rd S (i := 5) rfl rfl | exact boxM.rd S (i := 6) rfl rfl)) ?_; intro a H
                        refine still_yes' H rfl rfl (by assumption) ?_
                        refine still_does H rfl (does_gtr rfl rfl) ?_; intro a H
                        exact wpStill_nil (H.strip 5 rfl rfl)
                      case k =>
                        clear H a; intro a H
                        refine still_does H rfl (by first | exact does_or rfl rfl rfl | exact does_pick rfl rfl rfl) ?_; clear H a; intro a H
                        refine still_does H rfl (does_move rfl) ?_; clear H a; intro a H
                        apply still_guard (i := 10) (g := 116) (t := 121) (b := false) 5 H rfl rfl (by kernel_rfl) (by kernel_rfl) rfl rfl
                        case h1 =>
                          intro hg11
                          refine still_yes' H rfl rfl (by assumption) ?_
                          refine still_does H rfl (by first | exact does_field_pt fo_26_1 rfl | exact does_field fo_26_1 rfl) ?_; intro a H
                          refine still_yes' H rfl rfl (by assumption) ?_
                          refine still_does H rfl (does_load one_3 rfl (by first | exact ownM.rd S (i := 1) rfl (by omega) (by omega) | exact ownM.rd S (i := 0) rfl (by omega) (by omega) | exact boxM.rd S (i := 0) rfl rfl | exact boxM.rd S (i := 1) rfl rfl | exact boxM.rd S (i := 2) rfl rfl | exact boxM.rd S (i := 3) rfl rfl | exact boxM.rd S (i := 4) rfl rfl | exact boxM.rd S (i := 5) rfl rfl | exact boxM.rd S (i := 6) rfl rfl)) ?_; intro a H
                          refine still_yes' H rfl rfl (by assumption) ?_
                          refine still_does H rfl (by first | exact does_field_pt fo_23_0 rfl | exact does_field fo_23_0 rfl) ?_; intro a H
                          refine still_yes' H rfl rfl (by assumption) ?_
                          refine still_does H rfl (does_load one_3 rfl (by first | exact ownM.rd S (i := 1) rfl (by omega) (by omega) | exact ownM.rd S (i := 0) rfl (by omega) (by omega) | exact boxM.rd S (i := 0) rfl rfl | exact boxM.rd S (i := 1) rfl rfl | exact boxM.rd S (i := 2) rfl rfl | exact boxM.rd S (i := 3) rfl rfl | exact boxM.rd S (i := 4) rfl rfl | exact boxM.rd S (i := 5) rfl rfl | exact boxM.rd S (i := 6) rfl rfl)) ?_; intro a H
                          refine still_yes' H rfl rfl (by assumption) ?_
                          refine still_does H rfl (does_gtr rfl rfl) ?_; intro a H
                          exact wpStill_nil (H.strip 5 rfl rfl)
                        case k =>
                          clear H a; intro a H
                          refine still_does H rfl (by first | exact does_or rfl rfl rfl | exact does_pick rfl rfl rfl) ?_; clear H a; intro a H
                          refine wpStill_nil (hK28 _ ?_)
                          clear hK28 K28
                          refine cond_ H rfl (fun hc7 => ?_) (fun hc7 => ?_)
                          · try simp only [Bool.or_eq_true, Bool.and_eq_true, Bool.not_eq_true', Bool.or_eq_false_iff, Bool.and_eq_false_iff, Bool.not_eq_false', decide_eq_true_eq, decide_eq_false_iff_not, Int.not_lt, Int.not_le] at hc7
                            replace H := H.keep [] rfl
                            refine seq_list (fun K29 hK29 => ?_)
                            refine list_call H rfl rfl Try.func18 rfl rfl (law_works _) ?_; clear H a
                            rintro _ _ a ⟨rfl, S2⟩ H
                            replace S := S.call S2; clear S2
                            refine list_does H rfl (does_assign rfl) ?_; clear H a; intro a H
                            refine hK29 _ _ ?_
                            clear hK29 K29
                            refine wp_ret ?_
                            refine ret1 (fn := Try.f5) rfl H rfl ?_
                            exact ⟨rfl, (S.sel [] rfl rfl)⟩
                          · try simp only [Bool.or_eq_true, Bool.and_eq_true, Bool.not_eq_true', Bool.or_eq_false_iff, Bool.and_eq_false_iff, Bool.not_eq_false', decide_eq_true_eq, decide_eq_false_iff_not, Int.not_lt, Int.not_le] at hc7
                            refine wp_skip ?_
                            refine hK27 _ _ ?_
                            replace H := H.keep [5, 7, 8, 9] rfl
                            refine seq_list (fun K30 hK30 => ?_)
                            refine list_does H rfl (by first | exact does_loadBox agg_23 sz_23 rfl S (i := 0) rfl rfl | exact does_loadBox agg_23 sz_23 rfl S (i := 1) rfl rfl | exact does_loadBox agg_23 sz_23 rfl S (i := 2) rfl rfl | exact does_loadBox agg_23 sz_23 rfl S (i := 3) rfl rfl | exact does_loadBox agg_23 sz_23 rfl S (i := 4) rfl rfl | exact does_loadBox agg_23 sz_23 rfl S (i := 5) rfl rfl | exact does_loadBox agg_23 sz_23 rfl S (i := 6) rfl rfl) ?_; clear H a; intro a H
                            refine list_does H rfl (does_move rfl) ?_; clear H a; intro a H
                            refine list_does H rfl (by first | exact does_field_pt fo_26_0 rfl | exact does_field fo_26_0 rfl) ?_; clear H a; intro a H
                            refine list_does H rfl (does_load one_3 rfl (by first | exact ownM.rd S (i := 1) rfl (by omega) (by omega) | exact ownM.rd S (i := 0) rfl (by omega) (by omega) | exact boxM.rd S (i := 0) rfl rfl | exact boxM.rd S (i := 1) rfl rfl | exact boxM.rd S (i := 2) rfl rfl | exact boxM.rd S (i := 3) rfl rfl | exact boxM.rd S (i := 4) rfl rfl | exact boxM.rd S (i := 5) rfl rfl | exact boxM.rd S (i := 6) rfl rfl)) ?_; clear H a; intro a H
                            refine list_does H rfl (by first | exact does_field_pt fo_26_1 rfl | exact does_field fo_26_1 rfl) ?_; clear H a; intro a H
                            refine list_does H rfl (does_load one_3 rfl (by first | exact ownM.rd S (i := 1) rfl (by omega) (by omega) | exact ownM.rd S (i := 0) rfl (by omega) (by omega) | exact boxM.rd S (i := 0) rfl rfl | exact boxM.rd S (i := 1) rfl rfl | exact boxM.rd S (i := 2) rfl rfl | exact boxM.rd S (i := 3) rfl rfl | exact boxM.rd S (i := 4) rfl rfl | exact boxM.rd S (i := 5) rfl rfl | exact boxM.rd S (i := 6) rfl rfl)) ?_; clear H a; intro a H
                            refine list_call H rfl rfl Try.func28 rfl rfl (chain_Run links pitch limit l A cp sf st _ (hl.now S) hn) ?_; clear H a
                            rintro _ _ a ⟨rfl, S2⟩ H
                            replace S := S.call S2; clear S2
                            rw [run_of hW (isRun_true ⟨⟨by omega, by omega⟩, by (try dsimp only); omega⟩)] at H; simp only [runV] at H
                            refine list_does H rfl (does_move rfl) ?_; clear H a; intro a H
                            refine list_does H rfl (does_extract rfl rfl) ?_; clear H a; intro a H
                            refine list_does H rfl (does_extract rfl rfl) ?_; clear H a; intro a H
                            refine list_alloc H rfl S ze_42 ?_; clear H a S; intro b15 _ a hb15 hbw15 S H
                            first | (refine list_store H S (i := 0) rfl rfl rfl rfl sz_42 rfl rfl ?_) | (refine list_store H S (i := 1) rfl rfl rfl rfl sz_42 rfl rfl ?_) | (refine list_store H S (i := 2) rfl rfl rfl rfl sz_42 rfl rfl ?_) | (refine list_store H S (i := 3) rfl rfl rfl rfl sz_42 rfl rfl ?_) | (refine list_store H S (i := 4) rfl rfl rfl rfl sz_42 rfl rfl ?_) | (refine list_store H S (i := 5) rfl rfl rfl rfl sz_42 rfl rfl ?_) | (refine list_store H S (i := 6) rfl rfl rfl rfl sz_42 rfl rfl ?_) | (refine list_store H S (i := 7) rfl rfl rfl rfl sz_42 rfl rfl ?_) | (refine list_store_own H S (i := 0) rfl rfl rfl (by omega) (by omega) sz_42 rfl ?_) | (refine list_store_own H S (i := 1) rfl rfl rfl (by omega) (by omega) sz_42 rfl ?_) | (refine list_store_own H S (i := 2) rfl rfl rfl (by omega) (by omega) sz_42 rfl ?_) | (refine list_store_own H S (i := 3) rfl rfl rfl (by omega) (by omega) sz_42 rfl ?_) | (refine list_store_own H S (i := 4) rfl rfl rfl (by omega) (by omega) sz_42 rfl ?_) | (refine list_store_own H S (i := 5) rfl rfl rfl (by omega) (by omega) sz_42 rfl ?_) | (refine list_store_own H S (i := 6) rfl rfl rfl (by omega) (by omega) sz_42 rfl ?_) | (refine list_store_own H S (i := 7) rfl rfl rfl (by omega) (by omega) sz_42 rfl ?_)
                            clear H a S; intro _ a S H
                            refine list_does H rfl (does_assign rfl) ?_; clear H a; intro a H
                            refine hK30 _ _ ?_
                            clear hK30 K30
                            replace H := H.keep [5, 7, 8, 9, 15, 16] rfl
                            refine seq_list (fun K31 hK31 => ?_)
                            refine list_does H rfl (by first | exact does_loadBox agg_23 sz_23 rfl S (i := 0) rfl rfl | exact does_loadBox agg_23 sz_23 rfl S (i := 1) rfl rfl | exact does_loadBox agg_23 sz_23 rfl S (i := 2) rfl rfl | exact does_loadBox agg_23 sz_23 rfl S (i := 3) rfl rfl | exact does_loadBox agg_23 sz_23 rfl S (i := 4) rfl rfl | exact does_loadBox agg_23 sz_23 rfl S (i := 5) rfl rfl | exact does_loadBox agg_23 sz_23 rfl S (i := 6) rfl rfl | exact does_loadBox agg_23 sz_23 rfl S (i := 7) rfl rfl) ?_; clear H a; intro a H
                            refine list_does H rfl (does_move rfl) ?_; clear H a; intro a H
                            refine list_does H rfl (by first | exact does_field_pt fo_26_0 rfl | exact does_field fo_26_0 rfl) ?_; clear H a; intro a H
                            refine list_does H rfl (does_load one_3 rfl (by first | exact ownM.rd S (i := 2) rfl (by omega) (by omega) | exact ownM.rd S (i := 1) rfl (by omega) (by omega) | exact boxM.rd S (i := 0) rfl rfl | exact boxM.rd S (i := 1) rfl rfl | exact boxM.rd S (i := 2) rfl rfl | exact boxM.rd S (i := 3) rfl rfl | exact boxM.rd S (i := 4) rfl rfl | exact boxM.rd S (i := 5) rfl rfl | exact boxM.rd S (i := 6) rfl rfl | exact boxM.rd S (i := 7) rfl rfl)) ?_; clear H a; intro a H
                            refine list_does H rfl (by first | exact does_field_pt fo_26_1 rfl | exact does_field fo_26_1 rfl) ?_; clear H a; intro a H
                            refine list_does H rfl (does_load one_3 rfl (by first | exact ownM.rd S (i := 2) rfl (by omega) (by omega) | exact ownM.rd S (i := 1) rfl (by omega) (by omega) | exact boxM.rd S (i := 0) rfl rfl | exact boxM.rd S (i := 1) rfl rfl | exact boxM.rd S (i := 2) rfl rfl | exact boxM.rd S (i := 3) rfl rfl | exact boxM.rd S (i := 4) rfl rfl | exact boxM.rd S (i := 5) rfl rfl | exact boxM.rd S (i := 6) rfl rfl | exact boxM.rd S (i := 7) rfl rfl)) ?_; clear H a; intro a H
                            refine list_call H rfl rfl Try.func28 rfl rfl (chain_Run links pitch limit (l ++ [(⟨gf, gt, glo, ghi⟩ : Gauge)]) _ _ sf st _ (ownM.inS S (i := 3) rfl) hnn) ?_; clear H a
                            rintro _ _ a ⟨rfl, S2⟩ H
                            replace S := S.call S2; clear S2
                            rw [run_of hW' (isRun_true ⟨⟨by omega, by omega⟩, by (try dsimp only); omega⟩)] at H; simp only [runV] at H
                            refine list_does H rfl (does_move rfl) ?_; clear H a; intro a H
                            refine list_does H rfl (does_extract rfl rfl) ?_; clear H a; intro a H
                            refine list_does H rfl (does_extract rfl rfl) ?_; clear H a; intro a H
                            refine list_alloc H rfl S ze_42 ?_; clear H a S; intro b17 _ a hb17 hbw17 S H
                            first | (refine list_store H S (i := 0) rfl rfl rfl rfl sz_42 rfl rfl ?_) | (refine list_store H S (i := 1) rfl rfl rfl rfl sz_42 rfl rfl ?_) | (refine list_store H S (i := 2) rfl rfl rfl rfl sz_42 rfl rfl ?_) | (refine list_store H S (i := 3) rfl rfl rfl rfl sz_42 rfl rfl ?_) | (refine list_store H S (i := 4) rfl rfl rfl rfl sz_42 rfl rfl ?_) | (refine list_store H S (i := 5) rfl rfl rfl rfl sz_42 rfl rfl ?_) | (refine list_store H S (i := 6) rfl rfl rfl rfl sz_42 rfl rfl ?_) | (refine list_store H S (i := 7) rfl rfl rfl rfl sz_42 rfl rfl ?_) | (refine list_store H S (i := 8) rfl rfl rfl rfl sz_42 rfl rfl ?_) | (refine list_store_own H S (i := 0) rfl rfl rfl (by omega) (by omega) sz_42 rfl ?_) | (refine list_store_own H S (i := 1) rfl rfl rfl (by omega) (by omega) sz_42 rfl ?_) | (refine list_store_own H S (i := 2) rfl rfl rfl (by omega) (by omega) sz_42 rfl ?_) | (refine list_store_own H S (i := 3) rfl rfl rfl (by omega) (by omega) sz_42 rfl ?_) | (refine list_store_own H S (i := 4) rfl rfl rfl (by omega) (by omega) sz_42 rfl ?_) | (refine list_store_own H S (i := 5) rfl rfl rfl (by omega) (by omega) sz_42 rfl ?_) | (refine list_store_own H S (i := 6) rfl rfl rfl (by omega) (by omega) sz_42 rfl ?_) | (refine list_store_own H S (i := 7) rfl rfl rfl (by omega) (by omega) sz_42 rfl ?_) | (refine list_store_own H S (i := 8) rfl rfl rfl (by omega) (by omega) sz_42 rfl ?_)
                            clear H a S; intro _ a S H
                            refine list_does H rfl (does_assign rfl) ?_; clear H a; intro a H
                            refine hK31 _ _ ?_
                            clear hK31 K31
                            refine wp_seq_k (fun K32 hK32 => ?_)
                            have hb1 := hle st.toNat sf.toNat; have hb2 := hle sf.toNat st.toNat
                            replace H := H.keep [5, 7, 8, 15, 16, 17, 18] rfl
                            refine seq_still (fun K33 hK33 => ?_)
                            refine still_does H rfl (does_move rfl) ?_; clear H a; intro a H
                            refine still_does H rfl (does_neq rfl rfl) ?_; clear H a; intro a H
                            refine still_does H rfl (does_move rfl) ?_; clear H a; intro a H
                            apply still_guard (i := 2) (g := 146) (t := 148) (b := false) 2 H rfl rfl (by kernel_rfl) (by kernel_rfl) rfl rfl
                            case h1 =>
                              intro hg3
                              refine still_yes' H rfl rfl (by assumption) ?_
                              refine still_does H rfl (does_move rfl) ?_; intro a H
                              refine still_yes' H rfl rfl (by assumption) ?_
                              refine still_does H rfl (does_neq rfl rfl) ?_; intro a H
                              exact wpStill_nil (H.strip 2 rfl rfl)
                            case k =>
                              clear H a; intro a H
                              refine still_does H rfl (by first | exact does_or rfl rfl rfl | exact does_pick rfl rfl rfl) ?_; clear H a; intro a H
                              refine still_does H rfl (does_move rfl) ?_; clear H a; intro a H
                              apply still_guard (i := 6) (g := 150) (t := 155) (b := false) 5 H rfl rfl (by kernel_rfl) (by kernel_rfl) rfl rfl
                              case h1 =>
                                intro hg7
                                refine still_yes' H rfl rfl (by assumption) ?_
                                refine still_does H rfl (by first | exact does_field_pt fo_42_0 rfl | exact does_field fo_42_0 rfl) ?_; intro a H
                                refine still_yes' H rfl rfl (by assumption) ?_
                                refine still_does H rfl (does_load one_3 rfl (by first | exact ownM.rd S (i := 3) rfl (by omega) (by omega) | exact ownM.rd S (i := 2) rfl (by omega) (by omega) | exact boxM.rd S (i := 0) rfl rfl | exact boxM.rd S (i := 1) rfl rfl | exact boxM.rd S (i := 2) rfl rfl | exact boxM.rd S (i := 3) rfl rfl | exact boxM.rd S (i := 4) rfl rfl | exact boxM.rd S (i := 5) rfl rfl | exact boxM.rd S (i := 6) rfl rfl | exact boxM.rd S (i := 7) rfl rfl | exact boxM.rd S (i := 8) rfl rfl)) ?_; intro a H
                                refine still_yes' H rfl rfl (by assumption) ?_
                                refine still_does H rfl (by first | exact does_field_pt fo_42_0 rfl | exact does_field fo_42_0 rfl) ?_; intro a H
                                refine still_yes' H rfl rfl (by assumption) ?_
                                refine still_does H rfl (does_load one_3 rfl (by first | exact ownM.rd S (i := 3) rfl (by omega) (by omega) | exact ownM.rd S (i := 2) rfl (by omega) (by omega) | exact boxM.rd S (i := 0) rfl rfl | exact boxM.rd S (i := 1) rfl rfl | exact boxM.rd S (i := 2) rfl rfl | exact boxM.rd S (i := 3) rfl rfl | exact boxM.rd S (i := 4) rfl rfl | exact boxM.rd S (i := 5) rfl rfl | exact boxM.rd S (i := 6) rfl rfl | exact boxM.rd S (i := 7) rfl rfl | exact boxM.rd S (i := 8) rfl rfl)) ?_; intro a H
                                refine still_yes' H rfl rfl (by assumption) ?_
                                refine still_does H rfl (does_lss rfl rfl) ?_; intro a H
                                exact wpStill_nil (H.strip 5 rfl rfl)
                              case k =>
                                clear H a; intro a H
                                refine still_does H rfl (by first | exact does_or rfl rfl rfl | exact does_pick rfl rfl rfl) ?_; clear H a; intro a H
                                refine still_does H rfl (does_move rfl) ?_; clear H a; intro a H
                                apply still_guard (i := 13) (g := 157) (t := 162) (b := false) 5 H rfl rfl (by kernel_rfl) (by kernel_rfl) rfl rfl
                                case h1 =>
                                  intro hg14
                                  refine still_yes' H rfl rfl (by assumption) ?_
                                  refine still_does H rfl (by first | exact does_field_pt fo_42_1 rfl | exact does_field fo_42_1 rfl) ?_; intro a H
                                  refine still_yes' H rfl rfl (by assumption) ?_
                                  refine still_does H rfl (does_load one_3 rfl (by first | exact ownM.rd S (i := 3) rfl (by omega) (by omega) | exact ownM.rd S (i := 2) rfl (by omega) (by omega) | exact boxM.rd S (i := 0) rfl rfl | exact boxM.rd S (i := 1) rfl rfl | exact boxM.rd S (i := 2) rfl rfl | exact boxM.rd S (i := 3) rfl rfl | exact boxM.rd S (i := 4) rfl rfl | exact boxM.rd S (i := 5) rfl rfl | exact boxM.rd S (i := 6) rfl rfl | exact boxM.rd S (i := 7) rfl rfl | exact boxM.rd S (i := 8) rfl rfl)) ?_; intro a H
                                  refine still_yes' H rfl rfl (by assumption) ?_
                                  refine still_does H rfl (by first | exact does_field_pt fo_42_1 rfl | exact does_field fo_42_1 rfl) ?_; intro a H
                                  refine still_yes' H rfl rfl (by assumption) ?_
                                  refine still_does H rfl (does_load one_3 rfl (by first | exact ownM.rd S (i := 3) rfl (by omega) (by omega) | exact ownM.rd S (i := 2) rfl (by omega) (by omega) | exact boxM.rd S (i := 0) rfl rfl | exact boxM.rd S (i := 1) rfl rfl | exact boxM.rd S (i := 2) rfl rfl | exact boxM.rd S (i := 3) rfl rfl | exact boxM.rd S (i := 4) rfl rfl | exact boxM.rd S (i := 5) rfl rfl | exact boxM.rd S (i := 6) rfl rfl | exact boxM.rd S (i := 7) rfl rfl | exact boxM.rd S (i := 8) rfl rfl)) ?_; intro a H
                                  refine still_yes' H rfl rfl (by assumption) ?_
                                  refine still_does H rfl (does_gtr rfl rfl) ?_; intro a H
                                  exact wpStill_nil (H.strip 5 rfl rfl)
                                case k =>
                                  clear H a; intro a H
                                  refine still_does H rfl (by first | exact does_or rfl rfl rfl | exact does_pick rfl rfl rfl) ?_; clear H a; intro a H
                                  refine wpStill_nil (hK33 _ ?_)
                                  clear hK33 K33
                                  refine cond_ H rfl (fun hc8 => ?_) (fun hc8 => ?_)
                                  · try simp only [Bool.or_eq_true, Bool.and_eq_true, Bool.not_eq_true', Bool.or_eq_false_iff, Bool.and_eq_false_iff, Bool.not_eq_false', decide_eq_true_eq, decide_eq_false_iff_not, Int.not_lt, Int.not_le] at hc8
                                    exfalso; simp at hc8; omega
                                  · try simp only [Bool.or_eq_true, Bool.and_eq_true, Bool.not_eq_true', Bool.or_eq_false_iff, Bool.and_eq_false_iff, Bool.not_eq_false', decide_eq_true_eq, decide_eq_false_iff_not, Int.not_lt, Int.not_le] at hc8
                                    refine wp_skip ?_
                                    refine hK32 _ _ ?_
                                    refine wp_seq_k (fun K34 hK34 => ?_)
                                    replace H := H.keep [5, 7, 8, 15] rfl
                                    refine seq_still (fun K35 hK35 => ?_)
                                    refine still_does H rfl (by first | exact does_field_pt fo_26_2 rfl | exact does_field fo_26_2 rfl) ?_; clear H a; intro a H
                                    refine still_does H rfl (does_load one_3 rfl (by first | exact ownM.rd S (i := 3) rfl (by omega) (by omega) | exact ownM.rd S (i := 2) rfl (by omega) (by omega) | exact boxM.rd S (i := 0) rfl rfl | exact boxM.rd S (i := 1) rfl rfl | exact boxM.rd S (i := 2) rfl rfl | exact boxM.rd S (i := 3) rfl rfl | exact boxM.rd S (i := 4) rfl rfl | exact boxM.rd S (i := 5) rfl rfl | exact boxM.rd S (i := 6) rfl rfl | exact boxM.rd S (i := 7) rfl rfl | exact boxM.rd S (i := 8) rfl rfl)) ?_; clear H a; intro a H
                                    refine still_does H rfl (by first | exact does_field_pt fo_26_0 rfl | exact does_field fo_26_0 rfl) ?_; clear H a; intro a H
                                    refine still_does H rfl (does_load one_3 rfl (by first | exact ownM.rd S (i := 3) rfl (by omega) (by omega) | exact ownM.rd S (i := 2) rfl (by omega) (by omega) | exact boxM.rd S (i := 0) rfl rfl | exact boxM.rd S (i := 1) rfl rfl | exact boxM.rd S (i := 2) rfl rfl | exact boxM.rd S (i := 3) rfl rfl | exact boxM.rd S (i := 4) rfl rfl | exact boxM.rd S (i := 5) rfl rfl | exact boxM.rd S (i := 6) rfl rfl | exact boxM.rd S (i := 7) rfl rfl | exact boxM.rd S (i := 8) rfl rfl)) ?_; clear H a; intro a H
                                    refine still_does H rfl (does_lss rfl rfl) ?_; clear H a; intro a H
                                    refine still_does H rfl (does_move rfl) ?_; clear H a; intro a H
                                    apply still_guard (i := 5) (g := 169) (t := 174) (b := false) 5 H rfl rfl (by kernel_rfl) (by kernel_rfl) rfl rfl
                                    case h1 =>
                                      intro hg6
                                      refine still_yes' H rfl rfl (by assumption) ?_
                                      refine still_does H rfl (by first | exact does_field_pt fo_26_2 rfl | exact does_field fo_26_2 rfl) ?_; intro a H
                                      refine still_yes' H rfl rfl (by assumption) ?_
                                      refine still_does H rfl (does_load one_3 rfl (by first | exact ownM.rd S (i := 3) rfl (by omega) (by omega) | exact ownM.rd S (i := 2) rfl (by omega) (by omega) | exact boxM.rd S (i := 0) rfl rfl | exact boxM.rd S (i := 1) rfl rfl | exact boxM.rd S (i := 2) rfl rfl | exact boxM.rd S (i := 3) rfl rfl | exact boxM.rd S (i := 4) rfl rfl | exact boxM.rd S (i := 5) rfl rfl | exact boxM.rd S (i := 6) rfl rfl | exact boxM.rd S (i := 7) rfl rfl | exact boxM.rd S (i := 8) rfl rfl)) ?_; intro a H
                                      refine still_yes' H rfl rfl (by assumption) ?_
                                      refine still_does H rfl (by first | exact does_field_pt fo_26_1 rfl | exact does_field fo_26_1 rfl) ?_; intro a H
                                      refine still_yes' H rfl rfl (by assumption) ?_
                                      refine still_does H rfl (does_load one_3 rfl (by first | exact ownM.rd S (i := 3) rfl (by omega) (by omega) | exact ownM.rd S (i := 2) rfl (by omega) (by omega) | exact boxM.rd S (i := 0) rfl rfl | exact boxM.rd S (i := 1) rfl rfl | exact boxM.rd S (i := 2) rfl rfl | exact boxM.rd S (i := 3) rfl rfl | exact boxM.rd S (i := 4) rfl rfl | exact boxM.rd S (i := 5) rfl rfl | exact boxM.rd S (i := 6) rfl rfl | exact boxM.rd S (i := 7) rfl rfl | exact boxM.rd S (i := 8) rfl rfl)) ?_; intro a H
                                      refine still_yes' H rfl rfl (by assumption) ?_
                                      refine still_does H rfl (does_gtr rfl rfl) ?_; intro a H
                                      exact wpStill_nil (H.strip 5 rfl rfl)
                                    case k =>
                                      clear H a; intro a H
                                      refine still_does H rfl (by first | exact does_or rfl rfl rfl | exact does_pick rfl rfl rfl) ?_; clear H a; intro a H
                                      refine wpStill_nil (hK35 _ ?_)
                                      clear hK35 K35
                                      refine cond_ H rfl (fun hc9 => ?_) (fun hc9 => ?_)
                                      · try simp only [Bool.or_eq_true, Bool.and_eq_true, Bool.not_eq_true', Bool.or_eq_false_iff, Bool.and_eq_false_iff, Bool.not_eq_false', decide_eq_true_eq, decide_eq_false_iff_not, Int.not_lt, Int.not_le] at hc9
                                        replace H := H.keep [] rfl
                                        refine seq_list (fun K36 hK36 => ?_)
                                        refine list_call H rfl rfl Try.func18 rfl rfl (law_works _) ?_; clear H a
                                        rintro _ _ a ⟨rfl, S2⟩ H
                                        replace S := S.call S2; clear S2
                                        refine list_does H rfl (does_assign rfl) ?_; clear H a; intro a H
                                        refine hK36 _ _ ?_
                                        clear hK36 K36
                                        refine wp_ret ?_
                                        refine ret1 (fn := Try.f5) rfl H rfl ?_
                                        exact ⟨rfl, (S.sel [] rfl rfl)⟩
                                      · try simp only [Bool.or_eq_true, Bool.and_eq_true, Bool.not_eq_true', Bool.or_eq_false_iff, Bool.and_eq_false_iff, Bool.not_eq_false', decide_eq_true_eq, decide_eq_false_iff_not, Int.not_lt, Int.not_le] at hc9
                                        refine wp_skip ?_
                                        refine hK34 _ _ ?_
                                        replace H := H.keep [5, 7, 8, 15] rfl
                                        refine seq_list (fun K37 hK37 => ?_)
                                        refine list_does H rfl (by first | exact does_loadBox agg_23 sz_23 rfl S (i := 0) rfl rfl | exact does_loadBox agg_23 sz_23 rfl S (i := 1) rfl rfl | exact does_loadBox agg_23 sz_23 rfl S (i := 2) rfl rfl | exact does_loadBox agg_23 sz_23 rfl S (i := 3) rfl rfl | exact does_loadBox agg_23 sz_23 rfl S (i := 4) rfl rfl | exact does_loadBox agg_23 sz_23 rfl S (i := 5) rfl rfl | exact does_loadBox agg_23 sz_23 rfl S (i := 6) rfl rfl | exact does_loadBox agg_23 sz_23 rfl S (i := 7) rfl rfl | exact does_loadBox agg_23 sz_23 rfl S (i := 8) rfl rfl) ?_; clear H a; intro a H
                                        refine list_does H rfl (does_move rfl) ?_; clear H a; intro a H
                                        refine list_does H rfl (by first | exact does_field_pt fo_26_0 rfl | exact does_field fo_26_0 rfl) ?_; clear H a; intro a H
                                        refine list_does H rfl (does_load one_3 rfl (by first | exact ownM.rd S (i := 3) rfl (by omega) (by omega) | exact ownM.rd S (i := 2) rfl (by omega) (by omega) | exact boxM.rd S (i := 0) rfl rfl | exact boxM.rd S (i := 1) rfl rfl | exact boxM.rd S (i := 2) rfl rfl | exact boxM.rd S (i := 3) rfl rfl | exact boxM.rd S (i := 4) rfl rfl | exact boxM.rd S (i := 5) rfl rfl | exact boxM.rd S (i := 6) rfl rfl | exact boxM.rd S (i := 7) rfl rfl | exact boxM.rd S (i := 8) rfl rfl)) ?_; clear H a; intro a H
                                        refine list_does H rfl (by first | exact does_field_pt fo_26_2 rfl | exact does_field fo_26_2 rfl) ?_; clear H a; intro a H
                                        refine list_does H rfl (does_load one_3 rfl (by first | exact ownM.rd S (i := 3) rfl (by omega) (by omega) | exact ownM.rd S (i := 2) rfl (by omega) (by omega) | exact boxM.rd S (i := 0) rfl rfl | exact boxM.rd S (i := 1) rfl rfl | exact boxM.rd S (i := 2) rfl rfl | exact boxM.rd S (i := 3) rfl rfl | exact boxM.rd S (i := 4) rfl rfl | exact boxM.rd S (i := 5) rfl rfl | exact boxM.rd S (i := 6) rfl rfl | exact boxM.rd S (i := 7) rfl rfl | exact boxM.rd S (i := 8) rfl rfl)) ?_; clear H a; intro a H
                                        refine list_call H rfl rfl Try.func28 rfl rfl (chain_Run links pitch limit l A cp sf sl _ (hl.now S) hn) ?_; clear H a
                                        rintro _ _ a ⟨rfl, S2⟩ H
                                        replace S := S.call S2; clear S2
                                        rw [run_of hW (isRun_true ⟨⟨by omega, by omega⟩, by (try dsimp only); omega⟩)] at H; simp only [runV] at H
                                        refine list_does H rfl (does_move rfl) ?_; clear H a; intro a H
                                        refine list_does H rfl (does_extract rfl rfl) ?_; clear H a; intro a H
                                        refine list_does H rfl (does_extract rfl rfl) ?_; clear H a; intro a H
                                        refine list_alloc H rfl S ze_42 ?_; clear H a S; intro b19 _ a hb19 hbw19 S H
                                        first | (refine list_store H S (i := 0) rfl rfl rfl rfl sz_42 rfl rfl ?_) | (refine list_store H S (i := 1) rfl rfl rfl rfl sz_42 rfl rfl ?_) | (refine list_store H S (i := 2) rfl rfl rfl rfl sz_42 rfl rfl ?_) | (refine list_store H S (i := 3) rfl rfl rfl rfl sz_42 rfl rfl ?_) | (refine list_store H S (i := 4) rfl rfl rfl rfl sz_42 rfl rfl ?_) | (refine list_store H S (i := 5) rfl rfl rfl rfl sz_42 rfl rfl ?_) | (refine list_store H S (i := 6) rfl rfl rfl rfl sz_42 rfl rfl ?_) | (refine list_store H S (i := 7) rfl rfl rfl rfl sz_42 rfl rfl ?_) | (refine list_store H S (i := 8) rfl rfl rfl rfl sz_42 rfl rfl ?_) | (refine list_store H S (i := 9) rfl rfl rfl rfl sz_42 rfl rfl ?_) | (refine list_store_own H S (i := 0) rfl rfl rfl (by omega) (by omega) sz_42 rfl ?_) | (refine list_store_own H S (i := 1) rfl rfl rfl (by omega) (by omega) sz_42 rfl ?_) | (refine list_store_own H S (i := 2) rfl rfl rfl (by omega) (by omega) sz_42 rfl ?_) | (refine list_store_own H S (i := 3) rfl rfl rfl (by omega) (by omega) sz_42 rfl ?_) | (refine list_store_own H S (i := 4) rfl rfl rfl (by omega) (by omega) sz_42 rfl ?_) | (refine list_store_own H S (i := 5) rfl rfl rfl (by omega) (by omega) sz_42 rfl ?_) | (refine list_store_own H S (i := 6) rfl rfl rfl (by omega) (by omega) sz_42 rfl ?_) | (refine list_store_own H S (i := 7) rfl rfl rfl (by omega) (by omega) sz_42 rfl ?_) | (refine list_store_own H S (i := 8) rfl rfl rfl (by omega) (by omega) sz_42 rfl ?_) | (refine list_store_own H S (i := 9) rfl rfl rfl (by omega) (by omega) sz_42 rfl ?_)
                                        clear H a S; intro _ a S H
                                        refine list_does H rfl (does_assign rfl) ?_; clear H a; intro a H
                                        refine hK37 _ _ ?_
                                        clear hK37 K37
                                        replace H := H.keep [5, 7, 8, 15, 19, 20] rfl
                                        refine seq_list (fun K38 hK38 => ?_)
                                        refine list_does H rfl (by first | exact does_loadBox agg_23 sz_23 rfl S (i := 0) rfl rfl | exact does_loadBox agg_23 sz_23 rfl S (i := 1) rfl rfl | exact does_loadBox agg_23 sz_23 rfl S (i := 2) rfl rfl | exact does_loadBox agg_23 sz_23 rfl S (i := 3) rfl rfl | exact does_loadBox agg_23 sz_23 rfl S (i := 4) rfl rfl | exact does_loadBox agg_23 sz_23 rfl S (i := 5) rfl rfl | exact does_loadBox agg_23 sz_23 rfl S (i := 6) rfl rfl | exact does_loadBox agg_23 sz_23 rfl S (i := 7) rfl rfl | exact does_loadBox agg_23 sz_23 rfl S (i := 8) rfl rfl | exact does_loadBox agg_23 sz_23 rfl S (i := 9) rfl rfl) ?_; clear H a; intro a H
                                        refine list_does H rfl (does_move rfl) ?_; clear H a; intro a H
                                        refine list_does H rfl (by first | exact does_field_pt fo_26_2 rfl | exact does_field fo_26_2 rfl) ?_; clear H a; intro a H
                                        refine list_does H rfl (does_load one_3 rfl (by first | exact ownM.rd S (i := 4) rfl (by omega) (by omega) | exact ownM.rd S (i := 3) rfl (by omega) (by omega) | exact boxM.rd S (i := 0) rfl rfl | exact boxM.rd S (i := 1) rfl rfl | exact boxM.rd S (i := 2) rfl rfl | exact boxM.rd S (i := 3) rfl rfl | exact boxM.rd S (i := 4) rfl rfl | exact boxM.rd S (i := 5) rfl rfl | exact boxM.rd S (i := 6) rfl rfl | exact boxM.rd S (i := 7) rfl rfl | exact boxM.rd S (i := 8) rfl rfl | exact boxM.rd S (i := 9) rfl rfl)) ?_; clear H a; intro a H
                                        refine list_does H rfl (by first | exact does_field_pt fo_26_1 rfl | exact does_field fo_26_1 rfl) ?_; clear H a; intro a H
                                        refine list_does H rfl (does_load one_3 rfl (by first | exact ownM.rd S (i := 4) rfl (by omega) (by omega) | exact ownM.rd S (i := 3) rfl (by omega) (by omega) | exact boxM.rd S (i := 0) rfl rfl | exact boxM.rd S (i := 1) rfl rfl | exact boxM.rd S (i := 2) rfl rfl | exact boxM.rd S (i := 3) rfl rfl | exact boxM.rd S (i := 4) rfl rfl | exact boxM.rd S (i := 5) rfl rfl | exact boxM.rd S (i := 6) rfl rfl | exact boxM.rd S (i := 7) rfl rfl | exact boxM.rd S (i := 8) rfl rfl | exact boxM.rd S (i := 9) rfl rfl)) ?_; clear H a; intro a H
                                        refine list_call H rfl rfl Try.func28 rfl rfl (chain_Run links pitch limit l A cp sl st _ (hl.now S) hn) ?_; clear H a
                                        rintro _ _ a ⟨rfl, S2⟩ H
                                        replace S := S.call S2; clear S2
                                        rw [run_of hW (isRun_true ⟨⟨by omega, by omega⟩, by (try dsimp only); omega⟩)] at H; simp only [runV] at H
                                        refine list_does H rfl (does_move rfl) ?_; clear H a; intro a H
                                        refine list_does H rfl (does_extract rfl rfl) ?_; clear H a; intro a H
                                        refine list_does H rfl (does_extract rfl rfl) ?_; clear H a; intro a H
                                        refine list_alloc H rfl S ze_42 ?_; clear H a S; intro b21 _ a hb21 hbw21 S H
                                        first | (refine list_store H S (i := 0) rfl rfl rfl rfl sz_42 rfl rfl ?_) | (refine list_store H S (i := 1) rfl rfl rfl rfl sz_42 rfl rfl ?_) | (refine list_store H S (i := 2) rfl rfl rfl rfl sz_42 rfl rfl ?_) | (refine list_store H S (i := 3) rfl rfl rfl rfl sz_42 rfl rfl ?_) | (refine list_store H S (i := 4) rfl rfl rfl rfl sz_42 rfl rfl ?_) | (refine list_store H S (i := 5) rfl rfl rfl rfl sz_42 rfl rfl ?_) | (refine list_store H S (i := 6) rfl rfl rfl rfl sz_42 rfl rfl ?_) | (refine list_store H S (i := 7) rfl rfl rfl rfl sz_42 rfl rfl ?_) | (refine list_store H S (i := 8) rfl rfl rfl rfl sz_42 rfl rfl ?_) | (refine list_store H S (i := 9) rfl rfl rfl rfl sz_42 rfl rfl ?_) | (refine list_store H S (i := 10) rfl rfl rfl rfl sz_42 rfl rfl ?_) | (refine list_store_own H S (i := 0) rfl rfl rfl (by omega) (by omega) sz_42 rfl ?_) | (refine list_store_own H S (i := 1) rfl rfl rfl (by omega) (by omega) sz_42 rfl ?_) | (refine list_store_own H S (i := 2) rfl rfl rfl (by omega) (by omega) sz_42 rfl ?_) | (refine list_store_own H S (i := 3) rfl rfl rfl (by omega) (by omega) sz_42 rfl ?_) | (refine list_store_own H S (i := 4) rfl rfl rfl (by omega) (by omega) sz_42 rfl ?_) | (refine list_store_own H S (i := 5) rfl rfl rfl (by omega) (by omega) sz_42 rfl ?_) | (refine list_store_own H S (i := 6) rfl rfl rfl (by omega) (by omega) sz_42 rfl ?_) | (refine list_store_own H S (i := 7) rfl rfl rfl (by omega) (by omega) sz_42 rfl ?_) | (refine list_store_own H S (i := 8) rfl rfl rfl (by omega) (by omega) sz_42 rfl ?_) | (refine list_store_own H S (i := 9) rfl rfl rfl (by omega) (by omega) sz_42 rfl ?_) | (refine list_store_own H S (i := 10) rfl rfl rfl (by omega) (by omega) sz_42 rfl ?_)
                                        clear H a S; intro _ a S H
                                        refine list_does H rfl (does_assign rfl) ?_; clear H a; intro a H
                                        refine hK38 _ _ ?_
                                        clear hK38 K38
                                        have hb3 := hG.tri sf.toNat sl.toNat st.toNat (by show _ < links.toNat + 1; omega) (by show _ < links.toNat + 1; omega) (by show _ < links.toNat + 1; omega)
                                        have hb4 := hG.tri st.toNat sl.toNat sf.toNat (by show _ < links.toNat + 1; omega) (by show _ < links.toNat + 1; omega) (by show _ < links.toNat + 1; omega)
                                        have hd1 := hG.bdd sf.toNat sl.toNat (by show _ < links.toNat + 1; omega) (by show _ < links.toNat + 1; omega)
                                        have hd2 := hG.bdd sl.toNat st.toNat (by show _ < links.toNat + 1; omega) (by show _ < links.toNat + 1; omega)
                                        have hd3 := hG.bdd sl.toNat sf.toNat (by show _ < links.toNat + 1; omega) (by show _ < links.toNat + 1; omega)
                                        have hd4 := hG.bdd st.toNat sl.toNat (by show _ < links.toNat + 1; omega) (by show _ < links.toNat + 1; omega)
                                        replace H := H.keep [15, 19, 20, 21, 22] rfl
                                        refine seq_list (fun K39 hK39 => ?_)
                                        refine list_does H rfl (does_move rfl) ?_; clear H a; intro a H
                                        refine list_does H rfl (does_eql rfl rfl) ?_; clear H a; intro a H
                                        refine list_does H rfl (does_move rfl) ?_; clear H a; intro a H
                                        refine list_still 2 ?_
                                        apply still_guard (i := 2) (g := 199) (t := 201) (b := true) 2 H rfl rfl (by kernel_rfl) (by kernel_rfl) rfl rfl
                                        case h1 =>
                                          intro hg3
                                          refine still_yes' H rfl rfl (by assumption) ?_
                                          refine still_does H rfl (does_move rfl) ?_; intro a H
                                          refine still_yes' H rfl rfl (by assumption) ?_
                                          refine still_does H rfl (does_eql rfl rfl) ?_; intro a H
                                          exact wpStill_nil (H.strip 2 rfl rfl)
                                        case k =>
                                          clear H a; intro a H
                                          refine wpStill_nil ?_
                                          refine list_does H rfl (by first | exact does_and rfl rfl rfl | exact does_pick rfl rfl rfl) ?_; clear H a; intro a H
                                          refine list_does H rfl (does_move rfl) ?_; clear H a; intro a H
                                          refine list_still 8 ?_
                                          apply still_guard (i := 6) (g := 203) (t := 211) (b := true) 8 H rfl rfl (by kernel_rfl) (by kernel_rfl) rfl rfl
                                          case h1 =>
                                            intro hg7
                                            refine still_yes' H rfl rfl (by assumption) ?_
                                            refine still_does H rfl (by first | exact does_field_pt fo_42_0 rfl | exact does_field fo_42_0 rfl) ?_; intro a H
                                            refine still_yes' H rfl rfl (by assumption) ?_
                                            refine still_does H rfl (does_load one_3 rfl (by first | exact ownM.rd S (i := 5) rfl (by omega) (by omega) | exact ownM.rd S (i := 4) rfl (by omega) (by omega) | exact boxM.rd S (i := 0) rfl rfl | exact boxM.rd S (i := 1) rfl rfl | exact boxM.rd S (i := 2) rfl rfl | exact boxM.rd S (i := 3) rfl rfl | exact boxM.rd S (i := 4) rfl rfl | exact boxM.rd S (i := 5) rfl rfl | exact boxM.rd S (i := 6) rfl rfl | exact boxM.rd S (i := 7) rfl rfl | exact boxM.rd S (i := 8) rfl rfl | exact boxM.rd S (i := 9) rfl rfl | exact boxM.rd S (i := 10) rfl rfl)) ?_; intro a H
                                            refine still_yes' H rfl rfl (by assumption) ?_
                                            refine still_does H rfl (by first | exact does_field_pt fo_42_0 rfl | exact does_field fo_42_0 rfl) ?_; intro a H
                                            refine still_yes' H rfl rfl (by assumption) ?_
                                            refine still_does H rfl (does_load one_3 rfl (by first | exact ownM.rd S (i := 5) rfl (by omega) (by omega) | exact ownM.rd S (i := 4) rfl (by omega) (by omega) | exact boxM.rd S (i := 0) rfl rfl | exact boxM.rd S (i := 1) rfl rfl | exact boxM.rd S (i := 2) rfl rfl | exact boxM.rd S (i := 3) rfl rfl | exact boxM.rd S (i := 4) rfl rfl | exact boxM.rd S (i := 5) rfl rfl | exact boxM.rd S (i := 6) rfl rfl | exact boxM.rd S (i := 7) rfl rfl | exact boxM.rd S (i := 8) rfl rfl | exact boxM.rd S (i := 9) rfl rfl | exact boxM.rd S (i := 10) rfl rfl)) ?_; intro a H
                                            refine still_yes' H rfl rfl (by assumption) ?_
                                            refine still_does H rfl (by first | exact does_field_pt fo_42_0 rfl | exact does_field fo_42_0 rfl) ?_; intro a H
                                            refine still_yes' H rfl rfl (by assumption) ?_
                                            refine still_does H rfl (does_load one_3 rfl (by first | exact ownM.rd S (i := 5) rfl (by omega) (by omega) | exact ownM.rd S (i := 4) rfl (by omega) (by omega) | exact boxM.rd S (i := 0) rfl rfl | exact boxM.rd S (i := 1) rfl rfl | exact boxM.rd S (i := 2) rfl rfl | exact boxM.rd S (i := 3) rfl rfl | exact boxM.rd S (i := 4) rfl rfl | exact boxM.rd S (i := 5) rfl rfl | exact boxM.rd S (i := 6) rfl rfl | exact boxM.rd S (i := 7) rfl rfl | exact boxM.rd S (i := 8) rfl rfl | exact boxM.rd S (i := 9) rfl rfl | exact boxM.rd S (i := 10) rfl rfl)) ?_; intro a H
                                            refine still_yes' H rfl rfl (by assumption) ?_
                                            refine still_does H rfl (does_add rfl rfl (by unfold i64ok; omega)) ?_; intro a H
                                            refine still_yes' H rfl rfl (by assumption) ?_
                                            refine still_does H rfl (does_geq rfl rfl) ?_; intro a H
                                            exact wpStill_nil (H.strip 8 rfl rfl)
                                          case k =>
                                            clear H a; intro a H
                                            refine wpStill_nil ?_
                                            refine list_does H rfl (by first | exact does_and rfl rfl rfl | exact does_pick rfl rfl rfl) ?_; clear H a; intro a H
                                            refine list_does H rfl (does_move rfl) ?_; clear H a; intro a H
                                            refine list_still 8 ?_
                                            apply still_guard (i := 16) (g := 213) (t := 221) (b := true) 8 H rfl rfl (by kernel_rfl) (by kernel_rfl) rfl rfl
                                            case h1 =>
                                              intro hg17
                                              refine still_yes' H rfl rfl (by assumption) ?_
                                              refine still_does H rfl (by first | exact does_field_pt fo_42_1 rfl | exact does_field fo_42_1 rfl) ?_; intro a H
                                              refine still_yes' H rfl rfl (by assumption) ?_
                                              refine still_does H rfl (does_load one_3 rfl (by first | exact ownM.rd S (i := 5) rfl (by omega) (by omega) | exact ownM.rd S (i := 4) rfl (by omega) (by omega) | exact boxM.rd S (i := 0) rfl rfl | exact boxM.rd S (i := 1) rfl rfl | exact boxM.rd S (i := 2) rfl rfl | exact boxM.rd S (i := 3) rfl rfl | exact boxM.rd S (i := 4) rfl rfl | exact boxM.rd S (i := 5) rfl rfl | exact boxM.rd S (i := 6) rfl rfl | exact boxM.rd S (i := 7) rfl rfl | exact boxM.rd S (i := 8) rfl rfl | exact boxM.rd S (i := 9) rfl rfl | exact boxM.rd S (i := 10) rfl rfl)) ?_; intro a H
                                              refine still_yes' H rfl rfl (by assumption) ?_
                                              refine still_does H rfl (by first | exact does_field_pt fo_42_1 rfl | exact does_field fo_42_1 rfl) ?_; intro a H
                                              refine still_yes' H rfl rfl (by assumption) ?_
                                              refine still_does H rfl (does_load one_3 rfl (by first | exact ownM.rd S (i := 5) rfl (by omega) (by omega) | exact ownM.rd S (i := 4) rfl (by omega) (by omega) | exact boxM.rd S (i := 0) rfl rfl | exact boxM.rd S (i := 1) rfl rfl | exact boxM.rd S (i := 2) rfl rfl | exact boxM.rd S (i := 3) rfl rfl | exact boxM.rd S (i := 4) rfl rfl | exact boxM.rd S (i := 5) rfl rfl | exact boxM.rd S (i := 6) rfl rfl | exact boxM.rd S (i := 7) rfl rfl | exact boxM.rd S (i := 8) rfl rfl | exact boxM.rd S (i := 9) rfl rfl | exact boxM.rd S (i := 10) rfl rfl)) ?_; intro a H
                                              refine still_yes' H rfl rfl (by assumption) ?_
                                              refine still_does H rfl (by first | exact does_field_pt fo_42_1 rfl | exact does_field fo_42_1 rfl) ?_; intro a H
                                              refine still_yes' H rfl rfl (by assumption) ?_
                                              refine still_does H rfl (does_load one_3 rfl (by first | exact ownM.rd S (i := 5) rfl (by omega) (by omega) | exact ownM.rd S (i := 4) rfl (by omega) (by omega) | exact boxM.rd S (i := 0) rfl rfl | exact boxM.rd S (i := 1) rfl rfl | exact boxM.rd S (i := 2) rfl rfl | exact boxM.rd S (i := 3) rfl rfl | exact boxM.rd S (i := 4) rfl rfl | exact boxM.rd S (i := 5) rfl rfl | exact boxM.rd S (i := 6) rfl rfl | exact boxM.rd S (i := 7) rfl rfl | exact boxM.rd S (i := 8) rfl rfl | exact boxM.rd S (i := 9) rfl rfl | exact boxM.rd S (i := 10) rfl rfl)) ?_; intro a H
                                              refine still_yes' H rfl rfl (by assumption) ?_
                                              refine still_does H rfl (does_add rfl rfl (by unfold i64ok; omega)) ?_; intro a H
                                              refine still_yes' H rfl rfl (by assumption) ?_
                                              refine still_does H rfl (does_leq rfl rfl) ?_; intro a H
                                              exact wpStill_nil (H.strip 8 rfl rfl)
                                            case k =>
                                              clear H a; intro a H
                                              refine wpStill_nil ?_
                                              refine list_does H rfl (Does.to (does_and rfl rfl rfl) (show Value.bool _ = Value.bool true from congrArg Value.bool (by simp only [Bool.and_eq_true, decide_eq_true_eq, eq_self, true_and, and_true]; (try dsimp only); omega))) ?_; clear H a; intro a H
                                              refine list_does H rfl (does_move rfl) ?_; clear H a; intro a H
                                              refine list_yes H rfl rfl ?_
                                              refine list_call H rfl rfl Try.func18 rfl rfl (law_works _) ?_; clear H a
                                              rintro _ _ a ⟨rfl, S2⟩ H
                                              replace S := S.call S2; clear S2
                                              refine list_does H rfl (by first | exact does_and rfl rfl rfl | exact does_pick rfl rfl rfl) ?_; clear H a; intro a H
                                              refine list_does H rfl (does_assign rfl) ?_; clear H a; intro a H
                                              refine hK39 _ _ ?_
                                              clear hK39 K39
                                              refine wp_ret ?_
                                              refine ret1 (fn := Try.f5) rfl H rfl ?_
                                              exact ⟨rfl, (S.sel [] rfl rfl)⟩

end Go.Proofs.Ytlejjfhgfajoiaa
