/- ChEa. Printed by gen.py. -/
import Derived.Test.YtlejjfhgfajoiaaChPo
import Derived.Test.YtlejjfhgfajoiaaPt
namespace Go.Proofs.Ytlejjfhgfajoiaa
open Go.RowKit
set_option linter.unusedVariables false
set_option linter.unusedSimpArgs false


theorem longTo_at (M : IM) (mm : Nat) : ∀ k, 0 < k → ∃ i, i < k ∧ longTo M mm k = ((i : Int), M i (i + mm)) ∧ ∀ j, j < k → M j (j + mm) ≤ M i (i + mm) := by
  intro k
  induction k with
  | zero => intro h; omega
  | succ k ih =>
    intro _
    rw [longTo]
    by_cases h0 : k = 0
    · subst h0
      rw [if_pos (.inl rfl)]
      exact ⟨0, by omega, rfl, fun j hj => by rw [show j = 0 by omega]; exact Int.le_refl _⟩
    · obtain ⟨i, h1, h2, h3⟩ := ih (by omega)
      rw [h2]
      by_cases h : M i (i + mm) < M k (k + mm)
      · rw [if_pos (.inr h)]
        refine ⟨k, by omega, rfl, fun j hj => ?_⟩
        by_cases e : j = k
        · subst e; exact Int.le_refl _
        · have := h3 j (by omega); omega
      · rw [if_neg (fun hh => by rcases hh with hh | hh; exact h0 hh; exact h hh)]
        refine ⟨i, by omega, rfl, fun j hj => ?_⟩
        by_cases e : j = k
        · subst e; omega
        · exact h3 j (by omega)
theorem long_of {c : Chain} {l : List Gauge} {M : IM} {mm : Nat} (h : wholeO c l true = .ok M) (h1 : 1 ≤ mm) (h2 : mm ≤ c.links.toNat) : longO c l (mm : Int) = ((longTo M mm (c.links.toNat + 1 - mm)).1, (longTo M mm (c.links.toNat + 1 - mm)).2, 0) := by
  unfold longO
  rw [decide_eq_true (show (1 : Int) ≤ mm by omega), decide_eq_true (show (mm : Int) ≤ c.links by omega)]
  rw [show (true && true) = true from rfl, h]
  rfl
def tryF (lo hi x : Int) (k : Nat) : Int := if k = 0 then lo else if k = 1 then hi else max lo (min hi x)
theorem tryF_in {lo hi x : Int} (h : lo ≤ hi) (k : Nat) : lo ≤ tryF lo hi x k ∧ tryF lo hi x k ≤ hi := by
  unfold tryF
  split
  · omega
  · split <;> omega
theorem tryF_cells {lo hi x : Int} : ∀ k j, k < 3 → j < 1 → ((([[.int .i64 lo], [.int .i64 hi], [.int .i64 (max lo (min hi x))]] : List (List Value)).getD k []).getD j undef) = .int .i64 (tryF lo hi x k) := by
  intro k j hk hj
  have h0 : j = 0 := by omega
  subst h0
  have : k = 0 ∨ k = 1 ∨ k = 2 := by omega
  rcases this with rfl | rfl | rfl <;> rfl
theorem wit_of {c : Chain} {l : List Gauge} {M : IM} {a b len : Int} (h : wholeO c l true = .ok M) (hr : isRunB c a b = true) (h1 : -(M b.toNat a.toNat) ≤ len) (h2 : len ≤ M a.toNat b.toNat) : witO c l a b len = .ok (witN (witS M a.toNat b.toNat len)) := by
  unfold witO
  rw [hr, h]
  exact if_pos ⟨h1, h2⟩


set_option maxRecDepth 100000 in
set_option maxHeartbeats 4000000 in
theorem law_ChainEach (links pitch limit : Int) (l : List Gauge) (A : Option Addr) (cp : Nat) (ws : List Int) (WA : Option Addr) (wac : Nat) (sf st sl : Int) (w : World) (hl : InS w noF 4 A l.length (gcell l)) (hn : l.length ≤ 9223372036854775807) (hw : InS w noF 1 WA ws.length (icl ws)) (hwn : ws.length ≤ 9223372036854775807) :
    Calls Try.prog 7 [.agg [.int .i64 links, .int .i64 pitch, .int .i64 limit, .slice A l.length cp].toArray, .slice WA ws.length wac, .agg [.int .i64 sf, .int .i64 st, .int .i64 sl].toArray].toArray w (Ret (fun v w' => v = .bool true ∧ St w noF [] w')) := by
  refine enter Try.func7 rfl Try.ntmps7 rfl (fun a H => ?_)
  have S := St.start w
  refine seq_list (fun K1 hK1 => ?_)
  refine list_box H rfl S rfl rfl ?_; clear H a S; intro b3 _ a hb3 hbw3 S H
  refine list_box H rfl S rfl rfl ?_; clear H a S; intro b5 _ a hb5 hbw5 S H
  refine list_does H rfl (does_assign rfl) ?_; clear H a; intro a H
  refine hK1 _ _ ?_
  clear hK1 K1
  replace H := H.keep [1, 3, 5] rfl
  replace S := S.drew
  refine seq_wq [(0, true), (1, true), (2, true), (3, true), (4, false), (5, false), (6, true)] (by kernel_rfl) (by kernel_rfl) (S.sel [0, 1] rfl rfl) (fun K2 hK2 => ?_)
  refine wq_does H rfl rfl (fun _ S => by first | exact does_field_pt fo_46_0 rfl | exact does_field fo_46_0 rfl) ?_; clear H a; intro a H
  refine wq_does H rfl rfl (fun _ S => by first | exact does_loadBox agg_23 sz_23 rfl S (i := 0) rfl rfl | exact does_loadBox agg_23 sz_23 rfl S (i := 1) rfl rfl) ?_; clear H a; intro a H
  refine wq_does H rfl rfl (fun _ S => by first | exact does_field_pt fo_46_1 rfl | exact does_field fo_46_1 rfl) ?_; clear H a; intro a H
  refine wq_does H rfl rfl (fun _ S => does_load one_24 rfl (by first | exact hw.rd S (by omega) (by omega) | exact boxM.rd S (i := 0) rfl rfl | exact boxM.rd S (i := 1) rfl rfl)) ?_; clear H a; intro a H
  refine wq_eff rfl ?_
  refine list_alloc H rfl S ze_23 ?_; clear H a S; intro b7 _ a hb7 hbw7 S H
  refine wpList_nil (And.intro (S.sel [1, 2] rfl rfl) ?_)
  refine wq_eff rfl ?_
  first | (refine list_store H S (i := 0) rfl rfl rfl rfl sz_23 rfl rfl ?_) | (refine list_store H S (i := 1) rfl rfl rfl rfl sz_23 rfl rfl ?_) | (refine list_store H S (i := 2) rfl rfl rfl rfl sz_23 rfl rfl ?_) | (refine list_store_own H S (i := 0) rfl rfl rfl (by omega) (by omega) sz_23 rfl ?_) | (refine list_store_own H S (i := 1) rfl rfl rfl (by omega) (by omega) sz_23 rfl ?_) | (refine list_store_own H S (i := 2) rfl rfl rfl (by omega) (by omega) sz_23 rfl ?_)
  clear H a S; intro _ a S H
  refine wpList_nil (And.intro (S.sel [1, 2] rfl rfl) ?_)
  refine wq_does H rfl rfl (fun _ S => does_assign rfl) ?_; clear H a; intro a H
  refine wq_nil ?_
  refine hK2 _ _ ?_
  clear hK2 K2
  refine wp_seq_k (fun K3 hK3 => ?_)
  replace H := H.keep [1, 5, 7, 8] rfl
  refine seq_list (fun K4 hK4 => ?_)
  refine list_does H rfl (does_move rfl) ?_; clear H a; intro a H
  refine list_call H rfl rfl Try.func17 rfl rfl (law_Far A l.length cp _) ?_; clear H a
  rintro _ _ a ⟨rfl, rfl⟩ H
  refine list_does H rfl (does_move rfl) ?_; clear H a; intro a H
  apply list_guard (i := 2) (g := 33) (t := 37) (b := false) 4 H S rfl rfl (by kernel_rfl) (by kernel_rfl) rfl rfl
  case h1 =>
    intro hg3
    refine list_yes' H rfl rfl (by assumption) ?_
    refine list_does H rfl (by first | exact does_loadBox agg_23 sz_23 rfl S (i := 0) rfl rfl | exact does_loadBox agg_23 sz_23 rfl S (i := 1) rfl rfl | exact does_loadBox agg_23 sz_23 rfl S (i := 2) rfl rfl) ?_; intro a H
    refine list_yes' H rfl rfl (by assumption) ?_
    refine list_does H rfl (does_move rfl) ?_; intro a H
    refine list_yes' H rfl rfl (by assumption) ?_
    refine list_call H rfl rfl Try.func24 rfl rfl (ref_Check links pitch limit l A cp _ (hl.now S) hn) ?_; clear H a
    rintro _ _ a ⟨rfl, S2⟩ H
    replace S := S.call S2; clear S2
    refine list_yes' H rfl rfl (by assumption) ?_
    refine list_does H rfl (does_neq rfl rfl) ?_; intro a H
    exact wpList_nil ⟨H.strip 4 rfl rfl, (S.sel [0, 1, 2] rfl rfl)⟩
  case k =>
    clear H a S; intro a _ H S
    refine list_does H rfl (by first | exact does_or rfl rfl rfl | exact does_pick rfl rfl rfl) ?_; clear H a; intro a H
    refine list_does H rfl (does_move rfl) ?_; clear H a; intro a H
    refine list_still 3 ?_
    apply still_guard (i := 8) (g := 39) (t := 42) (b := false) 3 H rfl rfl (by kernel_rfl) (by kernel_rfl) rfl rfl
    case h1 =>
      intro hg9
      refine still_yes' H rfl rfl (by assumption) ?_
      refine still_does H rfl (by first | exact does_field_pt fo_23_0 rfl | exact does_field fo_23_0 rfl) ?_; intro a H
      refine still_yes' H rfl rfl (by assumption) ?_
      refine still_does H rfl (does_load one_3 rfl (by first | exact hw.rd S (by omega) (by omega) | exact boxM.rd S (i := 0) rfl rfl | exact boxM.rd S (i := 1) rfl rfl | exact boxM.rd S (i := 2) rfl rfl)) ?_; intro a H
      refine still_yes' H rfl rfl (by assumption) ?_
      refine still_does H rfl (does_gtr rfl rfl) ?_; intro a H
      exact wpStill_nil (H.strip 3 rfl rfl)
    case k =>
      clear H a; intro a H
      refine wpStill_nil ?_
      refine list_does H rfl (by first | exact does_or rfl rfl rfl | exact does_pick rfl rfl rfl) ?_; clear H a; intro a H
      refine hK4 _ _ ?_
      clear hK4 K4
      refine cond_ H rfl (fun hc1 => ?_) (fun hc1 => ?_)
      · try simp only [Bool.or_eq_true, Bool.and_eq_true, Bool.not_eq_true', Bool.or_eq_false_iff, Bool.and_eq_false_iff, Bool.not_eq_false', decide_eq_true_eq, decide_eq_false_iff_not, Int.not_lt, Int.not_le] at hc1
        replace H := H.keep [] rfl
        refine seq_list (fun K5 hK5 => ?_)
        refine list_call H rfl rfl Try.func18 rfl rfl (law_works _) ?_; clear H a
        rintro _ _ a ⟨rfl, S2⟩ H
        replace S := S.call S2; clear S2
        refine list_does H rfl (does_assign rfl) ?_; clear H a; intro a H
        refine hK5 _ _ ?_
        clear hK5 K5
        refine wp_ret ?_
        refine ret1 (fn := Try.f7) rfl H rfl ?_
        exact ⟨rfl, (S.sel [] rfl rfl)⟩
      · try simp only [Bool.or_eq_true, Bool.and_eq_true, Bool.not_eq_true', Bool.or_eq_false_iff, Bool.and_eq_false_iff, Bool.not_eq_false', decide_eq_true_eq, decide_eq_false_iff_not, Int.not_lt, Int.not_le] at hc1
        refine wp_skip ?_
        refine hK3 _ _ ?_
        have h0 : checkE (⟨links, pitch, limit⟩ : Chain) l = 0 := by omega
        have hck := checkE_ok h0; have hC := hck.1; unfold chainOk at hC; simp only [decide_eq_true_eq] at hC
        rcases hW : wholeO (⟨links, pitch, limit⟩ : Chain) l true with e | M
        · skip
          have he : e = 3 := by
            rcases whole_cases h0 true with ⟨h, _⟩ | ⟨_, _, h⟩ | ⟨M, _, _, h⟩
            · cases h
            · rw [hW] at h; cases h; rfl
            · rw [hW] at h; cases h
          subst he
          have hnp : posB (⟨links, pitch, limit⟩ : Chain) l ws.length (fnL ws) = false := by
            rw [← Bool.not_eq_true, posB_iff]; rintro ⟨_, h9⟩
            obtain ⟨M, hM, _⟩ := pos_best h0 h9
            unfold wholeO at hW; rw [if_neg (by omega), if_pos rfl, hM] at hW; cases hW
          replace H := H.keep [1, 5, 7, 8] rfl
          refine seq_list (fun K6 hK6 => ?_)
          refine list_does H rfl (by first | exact does_loadBox agg_23 sz_23 rfl S (i := 0) rfl rfl | exact does_loadBox agg_23 sz_23 rfl S (i := 1) rfl rfl | exact does_loadBox agg_23 sz_23 rfl S (i := 2) rfl rfl) ?_; clear H a; intro a H
          refine list_does H rfl (does_move rfl) ?_; clear H a; intro a H
          refine list_call H rfl rfl Try.func25 rfl rfl (ret_imp (chain_Links links pitch limit l A cp _ (hl.now S) hn) (fun _ _ h => lnk_err hW h)) ?_; clear H a
          rintro _ _ a ⟨rfl, S2⟩ H
          replace S := S.call S2; clear S2
          refine list_does H rfl (does_move rfl) ?_; clear H a; intro a H
          refine list_does H rfl (does_extract rfl rfl) ?_; clear H a; intro a H
          refine list_does H rfl (does_extract rfl rfl) ?_; clear H a; intro a H
          refine list_does H rfl (does_assign rfl) ?_; clear H a; intro a H
          refine list_does H rfl (does_assign rfl) ?_; clear H a; intro a H
          refine hK6 _ _ ?_
          clear hK6 K6
          replace H := H.keep [1, 5, 7, 8, 9, 10] rfl
          refine seq_list (fun K7 hK7 => ?_)
          refine list_does H rfl (by first | exact does_loadBox agg_23 sz_23 rfl S (i := 0) rfl rfl | exact does_loadBox agg_23 sz_23 rfl S (i := 1) rfl rfl | exact does_loadBox agg_23 sz_23 rfl S (i := 2) rfl rfl) ?_; clear H a; intro a H
          refine list_does H rfl (does_move rfl) ?_; clear H a; intro a H
          refine list_does H rfl (does_move rfl) ?_; clear H a; intro a H
          refine list_call H rfl rfl Try.func32 rfl rfl (law_Possible links pitch limit l A cp WA ws.length wac (fnL ws) _ (hl.now S) hn (hw.now S) hwn h0) ?_; clear H a
          rintro _ _ a ⟨rfl, S2⟩ H
          replace S := S.call S2; clear S2
          refine list_does H rfl (does_assign rfl) ?_; clear H a; intro a H
          refine hK7 _ _ ?_
          clear hK7 K7
          refine wp_seq_k (fun K8 hK8 => ?_)
          replace H := H.keep [1, 5, 7, 8, 9, 10, 11] rfl
          refine seq_still (fun K9 hK9 => ?_)
          refine still_does H rfl (does_move rfl) ?_; clear H a; intro a H
          refine still_does H rfl (does_neq rfl rfl) ?_; clear H a; intro a H
          refine wpStill_nil (hK9 _ ?_)
          clear hK9 K9
          refine cond_ H rfl (fun hc2 => ?_) (fun hc2 => ?_)
          · skip
            replace H := H.keep [10, 11] rfl
            refine seq_list (fun K10 hK10 => ?_)
            refine list_does H rfl (does_move rfl) ?_; clear H a; intro a H
            refine list_does H rfl (does_eql rfl rfl) ?_; clear H a; intro a H
            refine list_does H rfl (does_move rfl) ?_; clear H a; intro a H
            refine list_still 2 ?_
            apply still_guard (i := 2) (g := 59) (t := 61) (b := true) 2 H rfl rfl (by kernel_rfl) (by kernel_rfl) rfl rfl
            case h1 =>
              intro hg3
              refine still_yes' H rfl rfl (by assumption) ?_
              refine still_does H rfl (does_move rfl) ?_; intro a H
              refine still_yes' H rfl rfl (by assumption) ?_
              refine still_does H rfl (does_not rfl) ?_; intro a H
              exact wpStill_nil (H.strip 2 rfl rfl)
            case k =>
              clear H a; intro a H
              refine wpStill_nil ?_
              refine list_does H rfl (Does.to (does_and rfl rfl rfl) (show Value.bool _ = Value.bool true from congrArg Value.bool (by rw [hnp]; rfl))) ?_; clear H a; intro a H
              refine list_does H rfl (does_move rfl) ?_; clear H a; intro a H
              refine list_yes H rfl rfl ?_
              refine list_call H rfl rfl Try.func18 rfl rfl (law_works _) ?_; clear H a
              rintro _ _ a ⟨rfl, S2⟩ H
              replace S := S.call S2; clear S2
              refine list_does H rfl (by first | exact does_and rfl rfl rfl | exact does_pick rfl rfl rfl) ?_; clear H a; intro a H
              refine list_does H rfl (does_assign rfl) ?_; clear H a; intro a H
              refine hK10 _ _ ?_
              clear hK10 K10
              refine wp_ret ?_
              refine ret1 (fn := Try.f7) rfl H rfl ?_
              exact ⟨rfl, (S.sel [] rfl rfl)⟩
          · skip
            simp at hc2
        · skip
          have hG := wholeO_good hW; have hG1 := hG.1; have hW1 := (wholeO_ok hW).2.2
          replace H := H.keep [1, 5, 7, 8] rfl
          refine seq_list (fun K11 hK11 => ?_)
          refine list_does H rfl (by first | exact does_loadBox agg_23 sz_23 rfl S (i := 0) rfl rfl | exact does_loadBox agg_23 sz_23 rfl S (i := 1) rfl rfl | exact does_loadBox agg_23 sz_23 rfl S (i := 2) rfl rfl) ?_; clear H a; intro a H
          refine list_does H rfl (does_move rfl) ?_; clear H a; intro a H
          refine list_call H rfl rfl Try.func25 rfl rfl (ret_imp (chain_Links links pitch limit l A cp _ (hl.now S) hn) (fun _ _ h => lnk_ok hW h)) ?_; clear H a
          rintro _ _ a ⟨Als, cls, rfl, S2⟩ H
          replace S := S.call S2; clear S2
          refine list_does H rfl (does_move rfl) ?_; clear H a; intro a H
          refine list_does H rfl (does_extract rfl rfl) ?_; clear H a; intro a H
          refine list_does H rfl (does_extract rfl rfl) ?_; clear H a; intro a H
          refine list_does H rfl (does_assign rfl) ?_; clear H a; intro a H
          refine list_does H rfl (does_assign rfl) ?_; clear H a; intro a H
          refine hK11 _ _ ?_
          clear hK11 K11
          replace H := H.keep [1, 5, 7, 8, 9, 10] rfl
          refine seq_list (fun K12 hK12 => ?_)
          refine list_does H rfl (by first | exact does_loadBox agg_23 sz_23 rfl S (i := 0) rfl rfl | exact does_loadBox agg_23 sz_23 rfl S (i := 1) rfl rfl | exact does_loadBox agg_23 sz_23 rfl S (i := 2) rfl rfl | exact does_loadBox agg_23 sz_23 rfl S (i := 3) rfl rfl) ?_; clear H a; intro a H
          refine list_does H rfl (does_move rfl) ?_; clear H a; intro a H
          refine list_does H rfl (does_move rfl) ?_; clear H a; intro a H
          refine list_call H rfl rfl Try.func32 rfl rfl (law_Possible links pitch limit l A cp WA ws.length wac (fnL ws) _ (hl.now S) hn (hw.now S) hwn h0) ?_; clear H a
          rintro _ _ a ⟨rfl, S2⟩ H
          replace S := S.call S2; clear S2
          refine list_does H rfl (does_assign rfl) ?_; clear H a; intro a H
          refine hK12 _ _ ?_
          clear hK12 K12
          refine wp_seq_k (fun K13 hK13 => ?_)
          replace H := H.keep [1, 5, 7, 8, 9, 10, 11] rfl
          refine seq_still (fun K14 hK14 => ?_)
          refine still_does H rfl (does_move rfl) ?_; clear H a; intro a H
          refine still_does H rfl (does_neq rfl rfl) ?_; clear H a; intro a H
          refine wpStill_nil (hK14 _ ?_)
          clear hK14 K14
          refine cond_ H rfl (fun hc3 => ?_) (fun hc3 => ?_)
          · skip
            simp at hc3
          · skip
            refine wp_skip ?_
            refine hK13 _ _ ?_
            refine wp_seq_k (fun K15 hK15 => ?_)
            replace H := H.keep [1, 5, 7, 8, 9, 11] rfl
            refine seq_still (fun K16 hK16 => ?_)
            refine still_does H rfl (does_move rfl) ?_; clear H a; intro a H
            refine still_does H rfl (does_len sl_37 rfl) ?_; clear H a; intro a H
            refine still_does H rfl (by first | exact does_field_pt fo_23_0 rfl | exact does_field fo_23_0 rfl) ?_; clear H a; intro a H
            refine still_does H rfl (does_load one_3 rfl (by first | exact hw.rd S (by omega) (by omega) | exact ownM.rd S (i := 0) rfl (by omega) (by omega) | exact boxM.rd S (i := 0) rfl rfl | exact boxM.rd S (i := 1) rfl rfl | exact boxM.rd S (i := 2) rfl rfl | exact boxM.rd S (i := 3) rfl rfl)) ?_; clear H a; intro a H
            refine still_does H rfl (does_neq rfl rfl) ?_; clear H a; intro a H
            refine wpStill_nil (hK16 _ ?_)
            clear hK16 K16
            refine cond_ H rfl (fun hc4 => ?_) (fun hc4 => ?_)
            · try simp only [Bool.or_eq_true, Bool.and_eq_true, Bool.not_eq_true', Bool.or_eq_false_iff, Bool.and_eq_false_iff, Bool.not_eq_false', decide_eq_true_eq, decide_eq_false_iff_not, Int.not_lt, Int.not_le] at hc4
              exfalso; omega
            · try simp only [Bool.or_eq_true, Bool.and_eq_true, Bool.not_eq_true', Bool.or_eq_false_iff, Bool.and_eq_false_iff, Bool.not_eq_false', decide_eq_true_eq, decide_eq_false_iff_not, Int.not_lt, Int.not_le] at hc4
              refine wp_skip ?_
              refine hK15 _ _ ?_
              have SR := (S.sel [0, 1, 2, 3] rfl rfl)
              refine meet_sr (X := Unit) [5, 7, 8] H rfl (fun x => []) (fun x => []) (fun x => True) SR (fun K18 hK18 => ?_) ?_
              · skip
                replace H := H.keep [1, 5, 7, 8, 9, 11] rfl
                refine seq_still (fun K19 hK19 => ?_)
                refine still_does H rfl (does_move rfl) ?_; clear H a; intro a H
                refine wpStill_nil (hK19 _ ?_)
                clear hK19 K19
                refine cond_ H rfl (fun hc5 => ?_) (fun hc5 => ?_)
                · skip
                  refine wp_seq_k (fun K20 hK20 => ?_)
                  obtain ⟨hpl, hpp⟩ := posB_iff.1 hc5
                  (try dsimp only at hpl)
                  obtain ⟨M9, hM9, hMx⟩ := pos_best h0 hpp
                  rw [hW1] at hM9; cases hM9
                  have hfw : ∀ k, k < ws.length → 0 ≤ (fnL ws) k ∧ (fnL ws) k ≤ 100000 := fun k hk => by have := hpp.links k (by (try dsimp only); omega); (try dsimp only at this); omega
                  replace H := H.keep [1, 5, 7, 8, 9] rfl
                  refine seq_still (fun K21 hK21 => ?_)
                  refine still_does H rfl (does_assign rfl) ?_; clear H a; intro a H
                  refine wpStill_nil (hK21 _ ?_)
                  clear hK21 K21
                  refine wp_block ?_
                  refine loop_st (X := Nat) (R0 := _) [1, 5, 7, 8, 9] H rfl (fun k => [(12, .int .i64 (k : Int))]) (fun k => []) (fun g k => k ≤ links.toNat ∧ g + k = links.toNat) (links.toNat) 0 ?_ (S.sel [0, 1, 2, 3] rfl rfl) (H.keep [12, 1, 5, 7, 8, 9] rfl) ?_
                  · exact ⟨by omega, by omega⟩
                  · intro g1 x1 a w1 hp S H K22 hK22
                    obtain ⟨k, rfl⟩ : ∃ y, y = x1 := ⟨_, rfl⟩
                    skip
                    refine wp_seq_k (fun K23 hK23 => ?_)
                    replace H := H.keep [1, 5, 7, 8, 9, 12] rfl
                    refine seq_still (fun K24 hK24 => ?_)
                    refine still_does H rfl (does_move rfl) ?_; clear H a; intro a H
                    refine still_does H rfl (by first | exact does_field_pt fo_23_0 rfl | exact does_field fo_23_0 rfl) ?_; clear H a; intro a H
                    refine still_does H rfl (does_load one_3 rfl (by first | exact hw.rd S (by omega) (by omega) | exact ownM.rd S (i := 0) rfl (by omega) (by omega) | exact boxM.rd S (i := 0) rfl rfl | exact boxM.rd S (i := 1) rfl rfl | exact boxM.rd S (i := 2) rfl rfl | exact boxM.rd S (i := 3) rfl rfl)) ?_; clear H a; intro a H
                    refine still_does H rfl (does_lss rfl rfl) ?_; clear H a; intro a H
                    refine wpStill_nil (hK24 _ ?_)
                    clear hK24 K24
                    refine cond_ H rfl (fun hc6 => ?_) (fun hc6 => ?_)
                    · try simp only [Bool.or_eq_true, Bool.and_eq_true, Bool.not_eq_true', Bool.or_eq_false_iff, Bool.and_eq_false_iff, Bool.not_eq_false', decide_eq_true_eq, decide_eq_false_iff_not, Int.not_lt, Int.not_le] at hc6
                      refine wp_skip ?_
                      refine hK23 _ _ ?_
                      refine wp_seq_k (fun K25 hK25 => ?_)
                      refine wp_block ?_
                      replace H := H.keep [1, 5, 7, 8, 9, 12] rfl
                      refine seq_stillD (by kernel_rfl) (by kernel_rfl) (fun K26 hK26 => ?_)
                      replace S := S.drew
                      refine still_does H rfl (does_move rfl) ?_; clear H a; intro a H
                      refine still_does H rfl (does_move rfl) ?_; clear H a; intro a H
                      refine still_does H rfl (by first | exact does_indexN sl_29 sz_3 rfl rfl (by first | exact hw.adr (by omega) | exact ownM.adr S (i := 0) rfl (by omega)) (by first | omega | omega) | exact does_index sl_29 sz_3 rfl rfl (by first | exact hw.adr (by omega) | exact ownM.adr S (i := 0) rfl (by omega)) (by omega) (by first | omega | omega)) ?_; clear H a; intro a H
                      refine still_does H rfl (does_load one_3 rfl (by first | exact hw.rd S (by omega) (by omega) | exact ownM.rd S (i := 0) rfl (by omega) (by omega) | exact boxM.rd S (i := 0) rfl rfl | exact boxM.rd S (i := 1) rfl rfl | exact boxM.rd S (i := 2) rfl rfl | exact boxM.rd S (i := 3) rfl rfl)) ?_; clear H a; intro a H
                      refine still_does H rfl (does_move rfl) ?_; clear H a; intro a H
                      refine still_does H rfl (does_move rfl) ?_; clear H a; intro a H
                      refine still_does H rfl (by first | exact does_indexN sl_37 sz_42 rfl rfl (by first | exact hw.adr (by omega) | exact ownM.adr S (i := 0) rfl (by omega)) (by first | omega | omega) | exact does_index sl_37 sz_42 rfl rfl (by first | exact hw.adr (by omega) | exact ownM.adr S (i := 0) rfl (by omega)) (by omega) (by first | omega | omega)) ?_; clear H a; intro a H
                      refine still_does H rfl (by first | exact does_field_pt fo_42_0 rfl | exact does_field fo_42_0 rfl) ?_; clear H a; intro a H
                      refine still_does H rfl (does_load one_3 rfl (by first | exact hw.rd S (by omega) (by omega) | exact ownM.rd S (i := 0) rfl (by omega) (by omega) | exact boxM.rd S (i := 0) rfl rfl | exact boxM.rd S (i := 1) rfl rfl | exact boxM.rd S (i := 2) rfl rfl | exact boxM.rd S (i := 3) rfl rfl)) ?_; clear H a; intro a H
                      refine still_does H rfl (does_lss rfl rfl) ?_; clear H a; intro a H
                      refine still_does H rfl (does_move rfl) ?_; clear H a; intro a H
                      apply still_guard (i := 10) (g := 88) (t := 98) (b := false) 10 H rfl rfl (by kernel_rfl) (by kernel_rfl) rfl rfl
                      case h1 =>
                        intro hg11
                        refine still_yes' H rfl rfl (by assumption) ?_
                        refine still_does H rfl (does_move rfl) ?_; intro a H
                        refine still_yes' H rfl rfl (by assumption) ?_
                        refine still_does H rfl (does_move rfl) ?_; intro a H
                        refine still_yes' H rfl rfl (by assumption) ?_
                        refine still_does H rfl (by first | exact does_indexN sl_29 sz_3 rfl rfl (by first | exact hw.adr (by omega) | exact ownM.adr S (i := 0) rfl (by omega)) (by first | omega | omega) | exact does_index sl_29 sz_3 rfl rfl (by first | exact hw.adr (by omega) | exact ownM.adr S (i := 0) rfl (by omega)) (by omega) (by first | omega | omega)) ?_; intro a H
                        refine still_yes' H rfl rfl (by assumption) ?_
                        refine still_does H rfl (does_load one_3 rfl (by first | exact hw.rd S (by omega) (by omega) | exact ownM.rd S (i := 0) rfl (by omega) (by omega) | exact boxM.rd S (i := 0) rfl rfl | exact boxM.rd S (i := 1) rfl rfl | exact boxM.rd S (i := 2) rfl rfl | exact boxM.rd S (i := 3) rfl rfl)) ?_; intro a H
                        refine still_yes' H rfl rfl (by assumption) ?_
                        refine still_does H rfl (does_move rfl) ?_; intro a H
                        refine still_yes' H rfl rfl (by assumption) ?_
                        refine still_does H rfl (does_move rfl) ?_; intro a H
                        refine still_yes' H rfl rfl (by assumption) ?_
                        refine still_does H rfl (by first | exact does_indexN sl_37 sz_42 rfl rfl (by first | exact hw.adr (by omega) | exact ownM.adr S (i := 0) rfl (by omega)) (by first | omega | omega) | exact does_index sl_37 sz_42 rfl rfl (by first | exact hw.adr (by omega) | exact ownM.adr S (i := 0) rfl (by omega)) (by omega) (by first | omega | omega)) ?_; intro a H
                        refine still_yes' H rfl rfl (by assumption) ?_
                        refine still_does H rfl (by first | exact does_field_pt fo_42_1 rfl | exact does_field fo_42_1 rfl) ?_; intro a H
                        refine still_yes' H rfl rfl (by assumption) ?_
                        refine still_does H rfl (does_load one_3 rfl (by first | exact hw.rd S (by omega) (by omega) | exact ownM.rd S (i := 0) rfl (by omega) (by omega) | exact boxM.rd S (i := 0) rfl rfl | exact boxM.rd S (i := 1) rfl rfl | exact boxM.rd S (i := 2) rfl rfl | exact boxM.rd S (i := 3) rfl rfl)) ?_; intro a H
                        refine still_yes' H rfl rfl (by assumption) ?_
                        refine still_does H rfl (does_gtr rfl rfl) ?_; intro a H
                        exact wpStill_nil (H.strip 10 rfl rfl)
                      case k =>
                        clear H a; intro a H
                        refine still_does H rfl (by first | exact does_or rfl rfl rfl | exact does_pick rfl rfl rfl) ?_; clear H a; intro a H
                        refine wpStill_nil (hK26 _ ?_)
                        clear hK26 K26
                        refine cond_ H rfl (fun hc7 => ?_) (fun hc7 => ?_)
                        · try simp only [Bool.or_eq_true, Bool.and_eq_true, Bool.not_eq_true', Bool.or_eq_false_iff, Bool.and_eq_false_iff, Bool.not_eq_false', decide_eq_true_eq, decide_eq_false_iff_not, Int.not_lt, Int.not_le] at hc7
                          exfalso; have h8 := hMx k (k + 1) (by show _ < links.toNat + 1; omega) (by show _ < links.toNat + 1; omega); have h9 := hMx (k + 1) k (by show _ < links.toNat + 1; omega) (by show _ < links.toNat + 1; omega); rw [posP_succ] at h8 h9; have h7 : fnL ws k = ws.getD k 0 := rfl; omega
                        · try simp only [Bool.or_eq_true, Bool.and_eq_true, Bool.not_eq_true', Bool.or_eq_false_iff, Bool.and_eq_false_iff, Bool.not_eq_false', decide_eq_true_eq, decide_eq_false_iff_not, Int.not_lt, Int.not_le] at hc7
                          refine wp_skip ?_
                          refine hK25 _ _ ?_
                          replace H := H.keep [1, 5, 7, 8, 9, 12] rfl
                          refine one_still ?_
                          refine still_does H rfl (does_move rfl) ?_; clear H a; intro a H
                          refine still_does H rfl (does_add rfl rfl (by unfold i64ok; omega)) ?_; clear H a; intro a H
                          refine still_does H rfl (does_assign rfl) ?_; clear H a; intro a H
                          refine wpStill_nil ?_
                          exact hK22 (g1 - 1) (k + 1) a _ (by omega) (by omega) (S.sel [0, 1, 2, 3] rfl rfl) (H.keep [12, 1, 5, 7, 8, 9] rfl)
                    · try simp only [Bool.or_eq_true, Bool.and_eq_true, Bool.not_eq_true', Bool.or_eq_false_iff, Bool.and_eq_false_iff, Bool.not_eq_false', decide_eq_true_eq, decide_eq_false_iff_not, Int.not_lt, Int.not_le] at hc6
                      refine wp_exit ?_
                      refine hK20 _ _ ?_
                      replace H := H.keep [1, 5, 7, 8] rfl
                      refine seq_still (fun K28 hK28 => ?_)
                      refine still_does H rfl (does_assign rfl) ?_; clear H a; intro a H
                      refine wpStill_nil (hK28 _ ?_)
                      clear hK28 K28
                      refine wp_block ?_
                      refine loop_st (X := Nat) (R0 := _) [1, 5, 7, 8] H rfl (fun mm => [(13, .int .i64 (mm : Int))]) (fun mm => []) (fun g mm => 1 ≤ mm ∧ mm ≤ links.toNat + 1 ∧ g + mm = links.toNat + 1) (links.toNat) 1 ?_ (S.sel [0, 1, 2, 3] rfl rfl) (H.keep [13, 1, 5, 7, 8] rfl) ?_
                      · exact ⟨by omega, by omega, by omega⟩
                      · intro g2 x2 a w2 hp S H K29 hK29
                        obtain ⟨mm, rfl⟩ : ∃ y, y = x2 := ⟨_, rfl⟩
                        skip
                        refine wp_seq_k (fun K30 hK30 => ?_)
                        replace H := H.keep [1, 5, 7, 8, 13] rfl
                        refine seq_still (fun K31 hK31 => ?_)
                        refine still_does H rfl (does_move rfl) ?_; clear H a; intro a H
                        refine still_does H rfl (by first | exact does_field_pt fo_23_0 rfl | exact does_field fo_23_0 rfl) ?_; clear H a; intro a H
                        refine still_does H rfl (does_load one_3 rfl (by first | exact hw.rd S (by omega) (by omega) | exact ownM.rd S (i := 0) rfl (by omega) (by omega) | exact boxM.rd S (i := 0) rfl rfl | exact boxM.rd S (i := 1) rfl rfl | exact boxM.rd S (i := 2) rfl rfl | exact boxM.rd S (i := 3) rfl rfl)) ?_; clear H a; intro a H
                        refine still_does H rfl (does_leq rfl rfl) ?_; clear H a; intro a H
                        refine wpStill_nil (hK31 _ ?_)
                        clear hK31 K31
                        refine cond_ H rfl (fun hc8 => ?_) (fun hc8 => ?_)
                        · try simp only [Bool.or_eq_true, Bool.and_eq_true, Bool.not_eq_true', Bool.or_eq_false_iff, Bool.and_eq_false_iff, Bool.not_eq_false', decide_eq_true_eq, decide_eq_false_iff_not, Int.not_lt, Int.not_le] at hc8
                          refine wp_skip ?_
                          refine hK30 _ _ ?_
                          refine wp_seq_k (fun K32 hK32 => ?_)
                          refine wp_block ?_
                          replace H := H.keep [1, 5, 7, 8, 13] rfl
                          refine seq_list (fun K33 hK33 => ?_)
                          refine list_does H rfl (by first | exact does_loadBox agg_23 sz_23 rfl S (i := 0) rfl rfl | exact does_loadBox agg_23 sz_23 rfl S (i := 1) rfl rfl | exact does_loadBox agg_23 sz_23 rfl S (i := 2) rfl rfl | exact does_loadBox agg_23 sz_23 rfl S (i := 3) rfl rfl) ?_; clear H a; intro a H
                          refine list_does H rfl (does_move rfl) ?_; clear H a; intro a H
                          refine list_does H rfl (does_move rfl) ?_; clear H a; intro a H
                          refine list_call H rfl rfl Try.func30 rfl rfl (chain_Longest links pitch limit l A cp (mm : Int) _ (hl.now S) hn) ?_; clear H a
                          rintro _ _ a ⟨rfl, S2⟩ H
                          replace S := S.call S2; clear S2
                          rw [long_of hW (by omega) (by (try dsimp only); omega)] at H; dsimp only at H
                          refine list_does H rfl (does_move rfl) ?_; clear H a; intro a H
                          refine list_does H rfl (does_extract rfl rfl) ?_; clear H a; intro a H
                          refine list_does H rfl (does_extract rfl rfl) ?_; clear H a; intro a H
                          refine list_does H rfl (does_extract rfl rfl) ?_; clear H a; intro a H
                          refine list_does H rfl (does_assign rfl) ?_; clear H a; intro a H
                          refine list_does H rfl (does_assign rfl) ?_; clear H a; intro a H
                          refine list_does H rfl (does_assign rfl) ?_; clear H a; intro a H
                          refine hK33 _ _ ?_
                          clear hK33 K33
                          refine wp_seq_k (fun K34 hK34 => ?_)
                          obtain ⟨i9, hi1, hi2, hi3⟩ := longTo_at M mm (links.toNat + 1 - mm) (by omega)
                          rw [hi2] at H; dsimp only at H
                          replace H := H.keep [1, 5, 7, 8, 13, 14, 15, 16] rfl
                          refine seq_still (fun K35 hK35 => ?_)
                          refine still_does H rfl (does_move rfl) ?_; clear H a; intro a H
                          refine still_does H rfl (does_neq rfl rfl) ?_; clear H a; intro a H
                          refine still_does H rfl (does_move rfl) ?_; clear H a; intro a H
                          apply still_guard (i := 2) (g := 116) (t := 118) (b := false) 2 H rfl rfl (by kernel_rfl) (by kernel_rfl) rfl rfl
                          case h1 =>
                            intro hg3
                            refine still_yes' H rfl rfl (by assumption) ?_
                            refine still_does H rfl (does_move rfl) ?_; intro a H
                            refine still_yes' H rfl rfl (by assumption) ?_
                            refine still_does H rfl (does_lss rfl rfl) ?_; intro a H
                            exact wpStill_nil (H.strip 2 rfl rfl)
                          case k =>
                            clear H a; intro a H
                            refine still_does H rfl (by first | exact does_or rfl rfl rfl | exact does_pick rfl rfl rfl) ?_; clear H a; intro a H
                            refine still_does H rfl (does_move rfl) ?_; clear H a; intro a H
                            apply still_guard (i := 6) (g := 120) (t := 126) (b := false) 6 H rfl rfl (by kernel_rfl) (by kernel_rfl) rfl rfl
                            case h1 =>
                              intro hg7
                              refine still_yes' H rfl rfl (by assumption) ?_
                              refine still_does H rfl (does_move rfl) ?_; intro a H
                              refine still_yes' H rfl rfl (by assumption) ?_
                              refine still_does H rfl (does_move rfl) ?_; intro a H
                              refine still_yes' H rfl rfl (by assumption) ?_
                              refine still_does H rfl (does_add rfl rfl (by unfold i64ok; omega)) ?_; intro a H
                              refine still_yes' H rfl rfl (by assumption) ?_
                              refine still_does H rfl (by first | exact does_field_pt fo_23_0 rfl | exact does_field fo_23_0 rfl) ?_; intro a H
                              refine still_yes' H rfl rfl (by assumption) ?_
                              refine still_does H rfl (does_load one_3 rfl (by first | exact hw.rd S (by omega) (by omega) | exact ownM.rd S (i := 0) rfl (by omega) (by omega) | exact boxM.rd S (i := 0) rfl rfl | exact boxM.rd S (i := 1) rfl rfl | exact boxM.rd S (i := 2) rfl rfl | exact boxM.rd S (i := 3) rfl rfl)) ?_; intro a H
                              refine still_yes' H rfl rfl (by assumption) ?_
                              refine still_does H rfl (does_gtr rfl rfl) ?_; intro a H
                              exact wpStill_nil (H.strip 6 rfl rfl)
                            case k =>
                              clear H a; intro a H
                              refine still_does H rfl (by first | exact does_or rfl rfl rfl | exact does_pick rfl rfl rfl) ?_; clear H a; intro a H
                              refine wpStill_nil (hK35 _ ?_)
                              clear hK35 K35
                              refine cond_ H rfl (fun hc9 => ?_) (fun hc9 => ?_)
                              · try simp only [Bool.or_eq_true, Bool.and_eq_true, Bool.not_eq_true', Bool.or_eq_false_iff, Bool.and_eq_false_iff, Bool.not_eq_false', decide_eq_true_eq, decide_eq_false_iff_not, Int.not_lt, Int.not_le] at hc9
                                exfalso; simp at hc9; omega
                              · try simp only [Bool.or_eq_true, Bool.and_eq_true, Bool.not_eq_true', Bool.or_eq_false_iff, Bool.and_eq_false_iff, Bool.not_eq_false', decide_eq_true_eq, decide_eq_false_iff_not, Int.not_lt, Int.not_le] at hc9
                                refine wp_skip ?_
                                refine hK34 _ _ ?_
                                replace H := H.keep [1, 5, 7, 8, 13, 15] rfl
                                refine seq_still (fun K36 hK36 => ?_)
                                refine still_does H rfl (does_assign rfl) ?_; clear H a; intro a H
                                refine wpStill_nil (hK36 _ ?_)
                                clear hK36 K36
                                refine wp_block ?_
                                have hp2 := hp
                                refine loop_st (X := Nat) (R0 := _) [1, 5, 7, 8, 13, 15] H rfl (fun i => [(17, .int .i64 (i : Int))]) (fun i => []) (fun g i => i + mm ≤ links.toNat + 1 ∧ g + i + mm = links.toNat + 1) (links.toNat + 1 - mm) 0 ?_ (S.sel [0, 1, 2, 3] rfl rfl) (H.keep [17, 1, 5, 7, 8, 13, 15] rfl) ?_
                                · exact ⟨by omega, by omega⟩
                                · intro g3 x3 a w3 hp S H K37 hK37
                                  obtain ⟨i, rfl⟩ : ∃ y, y = x3 := ⟨_, rfl⟩
                                  skip
                                  refine wp_seq_k (fun K38 hK38 => ?_)
                                  replace H := H.keep [1, 5, 7, 8, 13, 15, 17] rfl
                                  refine seq_still (fun K39 hK39 => ?_)
                                  refine still_does H rfl (does_move rfl) ?_; clear H a; intro a H
                                  refine still_does H rfl (does_move rfl) ?_; clear H a; intro a H
                                  refine still_does H rfl (does_add rfl rfl (by unfold i64ok; omega)) ?_; clear H a; intro a H
                                  refine still_does H rfl (by first | exact does_field_pt fo_23_0 rfl | exact does_field fo_23_0 rfl) ?_; clear H a; intro a H
                                  refine still_does H rfl (does_load one_3 rfl (by first | exact hw.rd S (by omega) (by omega) | exact ownM.rd S (i := 0) rfl (by omega) (by omega) | exact boxM.rd S (i := 0) rfl rfl | exact boxM.rd S (i := 1) rfl rfl | exact boxM.rd S (i := 2) rfl rfl | exact boxM.rd S (i := 3) rfl rfl)) ?_; clear H a; intro a H
                                  refine still_does H rfl (does_leq rfl rfl) ?_; clear H a; intro a H
                                  refine wpStill_nil (hK39 _ ?_)
                                  clear hK39 K39
                                  refine cond_ H rfl (fun hc10 => ?_) (fun hc10 => ?_)
                                  · try simp only [Bool.or_eq_true, Bool.and_eq_true, Bool.not_eq_true', Bool.or_eq_false_iff, Bool.and_eq_false_iff, Bool.not_eq_false', decide_eq_true_eq, decide_eq_false_iff_not, Int.not_lt, Int.not_le] at hc10
                                    refine wp_skip ?_
                                    refine hK38 _ _ ?_
                                    refine wp_seq_k (fun K40 hK40 => ?_)
                                    refine wp_block ?_
                                    replace H := H.keep [1, 5, 7, 8, 13, 15, 17] rfl
                                    refine seq_list (fun K41 hK41 => ?_)
                                    refine list_does H rfl (by first | exact does_loadBox agg_23 sz_23 rfl S (i := 0) rfl rfl | exact does_loadBox agg_23 sz_23 rfl S (i := 1) rfl rfl | exact does_loadBox agg_23 sz_23 rfl S (i := 2) rfl rfl | exact does_loadBox agg_23 sz_23 rfl S (i := 3) rfl rfl) ?_; clear H a; intro a H
                                    refine list_does H rfl (does_move rfl) ?_; clear H a; intro a H
                                    refine list_does H rfl (does_move rfl) ?_; clear H a; intro a H
                                    refine list_does H rfl (does_move rfl) ?_; clear H a; intro a H
                                    refine list_does H rfl (does_move rfl) ?_; clear H a; intro a H
                                    refine list_does H rfl (does_add rfl rfl (by unfold i64ok; omega)) ?_; clear H a; intro a H
                                    refine list_call H rfl rfl Try.func28 rfl rfl (chain_Run links pitch limit l A cp (i : Int) ((i + mm : Nat) : Int) _ (hl.now S) hn) ?_; clear H a
                                    rintro _ _ a ⟨rfl, S2⟩ H
                                    replace S := S.call S2; clear S2
                                    rw [run_of hW (isRun_true ⟨⟨by omega, by omega⟩, by (try dsimp only); omega⟩)] at H; simp only [runV, Int.toNat_natCast] at H
                                    refine list_does H rfl (does_move rfl) ?_; clear H a; intro a H
                                    refine list_does H rfl (does_extract rfl rfl) ?_; clear H a; intro a H
                                    refine list_does H rfl (does_extract rfl rfl) ?_; clear H a; intro a H
                                    refine list_alloc H rfl S ze_42 ?_; clear H a S; intro b18 _ a hb18 hbw18 S H
                                    first | (refine list_store H S (i := 0) rfl rfl rfl rfl sz_42 rfl rfl ?_) | (refine list_store H S (i := 1) rfl rfl rfl rfl sz_42 rfl rfl ?_) | (refine list_store H S (i := 2) rfl rfl rfl rfl sz_42 rfl rfl ?_) | (refine list_store H S (i := 3) rfl rfl rfl rfl sz_42 rfl rfl ?_) | (refine list_store H S (i := 4) rfl rfl rfl rfl sz_42 rfl rfl ?_) | (refine list_store_own H S (i := 0) rfl rfl rfl (by omega) (by omega) sz_42 rfl ?_) | (refine list_store_own H S (i := 1) rfl rfl rfl (by omega) (by omega) sz_42 rfl ?_) | (refine list_store_own H S (i := 2) rfl rfl rfl (by omega) (by omega) sz_42 rfl ?_) | (refine list_store_own H S (i := 3) rfl rfl rfl (by omega) (by omega) sz_42 rfl ?_) | (refine list_store_own H S (i := 4) rfl rfl rfl (by omega) (by omega) sz_42 rfl ?_)
                                    clear H a S; intro _ a S H
                                    refine list_does H rfl (does_assign rfl) ?_; clear H a; intro a H
                                    refine hK41 _ _ ?_
                                    clear hK41 K41
                                    replace H := H.keep [1, 5, 7, 8, 13, 15, 17, 18, 19] rfl
                                    refine seq_list (fun K42 hK42 => ?_)
                                    refine list_does H rfl (does_move rfl) ?_; clear H a; intro a H
                                    refine list_does H rfl (does_move rfl) ?_; clear H a; intro a H
                                    refine list_does H rfl (does_move rfl) ?_; clear H a; intro a H
                                    refine list_does H rfl (does_move rfl) ?_; clear H a; intro a H
                                    refine list_does H rfl (does_add rfl rfl (by unfold i64ok; omega)) ?_; clear H a; intro a H
                                    refine list_call H rfl rfl Try.func33 rfl rfl (law_sum WA ws.length wac (fnL ws) i (i + mm) _ (hw.now S) (by omega) (by omega) (by omega) hfw) ?_; clear H a
                                    rintro _ _ a ⟨rfl, S2⟩ H
                                    replace S := S.call S2; clear S2
                                    rw [Nat.add_sub_cancel_left] at H
                                    refine list_does H rfl (does_assign rfl) ?_; clear H a; intro a H
                                    refine hK42 _ _ ?_
                                    clear hK42 K42
                                    replace H := H.keep [1, 5, 7, 8, 13, 15, 17, 18, 19, 20] rfl
                                    refine seq_still (fun K43 hK43 => ?_)
                                    refine still_does H rfl (does_move rfl) ?_; clear H a; intro a H
                                    refine still_does H rfl (does_neq rfl rfl) ?_; clear H a; intro a H
                                    refine still_does H rfl (does_move rfl) ?_; clear H a; intro a H
                                    apply still_guard (i := 2) (g := 154) (t := 158) (b := false) 4 H rfl rfl (by kernel_rfl) (by kernel_rfl) rfl rfl
                                    case h1 =>
                                      intro hg3
                                      refine still_yes' H rfl rfl (by assumption) ?_
                                      refine still_does H rfl (does_move rfl) ?_; intro a H
                                      refine still_yes' H rfl rfl (by assumption) ?_
                                      refine still_does H rfl (by first | exact does_field_pt fo_42_0 rfl | exact does_field fo_42_0 rfl) ?_; intro a H
                                      refine still_yes' H rfl rfl (by assumption) ?_
                                      refine still_does H rfl (does_load one_3 rfl (by first | exact hw.rd S (by omega) (by omega) | exact ownM.rd S (i := 1) rfl (by omega) (by omega) | exact boxM.rd S (i := 0) rfl rfl | exact boxM.rd S (i := 1) rfl rfl | exact boxM.rd S (i := 2) rfl rfl | exact boxM.rd S (i := 3) rfl rfl | exact boxM.rd S (i := 4) rfl rfl)) ?_; intro a H
                                      refine still_yes' H rfl rfl (by assumption) ?_
                                      refine still_does H rfl (does_lss rfl rfl) ?_; intro a H
                                      exact wpStill_nil (H.strip 4 rfl rfl)
                                    case k =>
                                      clear H a; intro a H
                                      refine still_does H rfl (by first | exact does_or rfl rfl rfl | exact does_pick rfl rfl rfl) ?_; clear H a; intro a H
                                      refine still_does H rfl (does_move rfl) ?_; clear H a; intro a H
                                      apply still_guard (i := 8) (g := 160) (t := 164) (b := false) 4 H rfl rfl (by kernel_rfl) (by kernel_rfl) rfl rfl
                                      case h1 =>
                                        intro hg9
                                        refine still_yes' H rfl rfl (by assumption) ?_
                                        refine still_does H rfl (does_move rfl) ?_; intro a H
                                        refine still_yes' H rfl rfl (by assumption) ?_
                                        refine still_does H rfl (by first | exact does_field_pt fo_42_1 rfl | exact does_field fo_42_1 rfl) ?_; intro a H
                                        refine still_yes' H rfl rfl (by assumption) ?_
                                        refine still_does H rfl (does_load one_3 rfl (by first | exact hw.rd S (by omega) (by omega) | exact ownM.rd S (i := 1) rfl (by omega) (by omega) | exact boxM.rd S (i := 0) rfl rfl | exact boxM.rd S (i := 1) rfl rfl | exact boxM.rd S (i := 2) rfl rfl | exact boxM.rd S (i := 3) rfl rfl | exact boxM.rd S (i := 4) rfl rfl)) ?_; intro a H
                                        refine still_yes' H rfl rfl (by assumption) ?_
                                        refine still_does H rfl (does_gtr rfl rfl) ?_; intro a H
                                        exact wpStill_nil (H.strip 4 rfl rfl)
                                      case k =>
                                        clear H a; intro a H
                                        refine still_does H rfl (by first | exact does_or rfl rfl rfl | exact does_pick rfl rfl rfl) ?_; clear H a; intro a H
                                        refine still_does H rfl (does_move rfl) ?_; clear H a; intro a H
                                        apply still_guard (i := 14) (g := 166) (t := 169) (b := false) 3 H rfl rfl (by kernel_rfl) (by kernel_rfl) rfl rfl
                                        case h1 =>
                                          intro hg15
                                          refine still_yes' H rfl rfl (by assumption) ?_
                                          refine still_does H rfl (does_move rfl) ?_; intro a H
                                          refine still_yes' H rfl rfl (by assumption) ?_
                                          refine still_does H rfl (does_move rfl) ?_; intro a H
                                          refine still_yes' H rfl rfl (by assumption) ?_
                                          refine still_does H rfl (does_gtr rfl rfl) ?_; intro a H
                                          exact wpStill_nil (H.strip 3 rfl rfl)
                                        case k =>
                                          clear H a; intro a H
                                          refine still_does H rfl (by first | exact does_or rfl rfl rfl | exact does_pick rfl rfl rfl) ?_; clear H a; intro a H
                                          refine wpStill_nil (hK43 _ ?_)
                                          clear hK43 K43
                                          refine cond_ H rfl (fun hc11 => ?_) (fun hc11 => ?_)
                                          · try simp only [Bool.or_eq_true, Bool.and_eq_true, Bool.not_eq_true', Bool.or_eq_false_iff, Bool.and_eq_false_iff, Bool.not_eq_false', decide_eq_true_eq, decide_eq_false_iff_not, Int.not_lt, Int.not_le] at hc11
                                            exfalso; have h8 := hMx i (i + mm) (by show _ < links.toNat + 1; omega) (by show _ < links.toNat + 1; omega); have h9 := hMx (i + mm) i (by show _ < links.toNat + 1; omega) (by show _ < links.toNat + 1; omega); have h7 := sumR_split (fnL ws) i mm; have h6 := hi3 i (by omega); simp at hc11; omega
                                          · try simp only [Bool.or_eq_true, Bool.and_eq_true, Bool.not_eq_true', Bool.or_eq_false_iff, Bool.and_eq_false_iff, Bool.not_eq_false', decide_eq_true_eq, decide_eq_false_iff_not, Int.not_lt, Int.not_le] at hc11
                                            refine wp_skip ?_
                                            refine hK40 _ _ ?_
                                            replace H := H.keep [1, 5, 7, 8, 13, 15, 17] rfl
                                            refine one_still ?_
                                            refine still_does H rfl (does_move rfl) ?_; clear H a; intro a H
                                            refine still_does H rfl (does_add rfl rfl (by unfold i64ok; omega)) ?_; clear H a; intro a H
                                            refine still_does H rfl (does_assign rfl) ?_; clear H a; intro a H
                                            refine wpStill_nil ?_
                                            skip
                                            exact hK37 (g3 - 1) (i + 1) a _ (by omega) (by omega) (S.sel [1, 2, 3, 4] rfl rfl) (H.keep [17, 1, 5, 7, 8, 13, 15] rfl)
                                  · try simp only [Bool.or_eq_true, Bool.and_eq_true, Bool.not_eq_true', Bool.or_eq_false_iff, Bool.and_eq_false_iff, Bool.not_eq_false', decide_eq_true_eq, decide_eq_false_iff_not, Int.not_lt, Int.not_le] at hc10
                                    refine wp_exit ?_
                                    refine hK32 _ _ ?_
                                    replace H := H.keep [1, 5, 7, 8, 13] rfl
                                    refine one_still ?_
                                    refine still_does H rfl (does_move rfl) ?_; clear H a; intro a H
                                    refine still_does H rfl (does_add rfl rfl (by unfold i64ok; omega)) ?_; clear H a; intro a H
                                    refine still_does H rfl (does_assign rfl) ?_; clear H a; intro a H
                                    refine wpStill_nil ?_
                                    exact hK29 (g2 - 1) (mm + 1) a _ (by omega) (⟨by omega, by omega, by omega⟩) (S.sel [0, 1, 2, 3] rfl rfl) (H.keep [13, 1, 5, 7, 8] rfl)
                        · try simp only [Bool.or_eq_true, Bool.and_eq_true, Bool.not_eq_true', Bool.or_eq_false_iff, Bool.and_eq_false_iff, Bool.not_eq_false', decide_eq_true_eq, decide_eq_false_iff_not, Int.not_lt, Int.not_le] at hc8
                          refine wp_exit ?_
                          exact hK18 () a _ (trivial) (S.sel [0, 1, 2, 3] rfl rfl) (H.keep [5, 7, 8] rfl)
                · skip
                  refine wp_skip ?_
                  exact hK18 () a _ (trivial) (S.sel [0, 1, 2, 3] rfl rfl) (H.keep [5, 7, 8] rfl)
              · intro xm a wm hp S H
                obtain ⟨x, rfl⟩ : ∃ y, y = xm := ⟨_, rfl⟩
                clear SR
                refine wp_seq_k (fun K46 hK46 => ?_)
                replace H := H.keep [5, 7, 8] rfl
                refine seq_still (fun K47 hK47 => ?_)
                refine still_does H rfl (by first | exact does_field_pt fo_26_0 rfl | exact does_field fo_26_0 rfl) ?_; clear H a; intro a H
                refine still_does H rfl (does_load one_3 rfl (by first | exact hw.rd S (by omega) (by omega) | exact ownM.rd S (i := 0) rfl (by omega) (by omega) | exact boxM.rd S (i := 0) rfl rfl | exact boxM.rd S (i := 1) rfl rfl | exact boxM.rd S (i := 2) rfl rfl | exact boxM.rd S (i := 3) rfl rfl)) ?_; clear H a; intro a H
                refine still_does H rfl (does_lss rfl rfl) ?_; clear H a; intro a H
                refine still_does H rfl (does_move rfl) ?_; clear H a; intro a H
                apply still_guard (i := 3) (g := 174) (t := 179) (b := false) 5 H rfl rfl (by kernel_rfl) (by kernel_rfl) rfl rfl
                case h1 =>
                  intro hg4
                  refine still_yes' H rfl rfl (by assumption) ?_
                  refine still_does H rfl (by first | exact does_field_pt fo_26_0 rfl | exact does_field fo_26_0 rfl) ?_; intro a H
                  refine still_yes' H rfl rfl (by assumption) ?_
                  refine still_does H rfl (does_load one_3 rfl (by first | exact hw.rd S (by omega) (by omega) | exact ownM.rd S (i := 0) rfl (by omega) (by omega) | exact boxM.rd S (i := 0) rfl rfl | exact boxM.rd S (i := 1) rfl rfl | exact boxM.rd S (i := 2) rfl rfl | exact boxM.rd S (i := 3) rfl rfl)) ?_; intro a H
                  refine still_yes' H rfl rfl (by assumption) ?_
                  refine still_does H rfl (by first | exact does_field_pt fo_26_1 rfl | exact does_field fo_26_1 rfl) ?_; intro a H
                  refine still_yes' H rfl rfl (by assumption) ?_
                  refine still_does H rfl (does_load one_3 rfl (by first | exact hw.rd S (by omega) (by omega) | exact ownM.rd S (i := 0) rfl (by omega) (by omega) | exact boxM.rd S (i := 0) rfl rfl | exact boxM.rd S (i := 1) rfl rfl | exact boxM.rd S (i := 2) rfl rfl | exact boxM.rd S (i := 3) rfl rfl)) ?_; intro a H
                  refine still_yes' H rfl rfl (by assumption) ?_
                  refine still_does H rfl (does_gtr rfl rfl) ?_; intro a H
                  exact wpStill_nil (H.strip 5 rfl rfl)
                case k =>
                  clear H a; intro a H
                  refine still_does H rfl (by first | exact does_or rfl rfl rfl | exact does_pick rfl rfl rfl) ?_; clear H a; intro a H
                  refine still_does H rfl (does_move rfl) ?_; clear H a; intro a H
                  apply still_guard (i := 10) (g := 181) (t := 186) (b := false) 5 H rfl rfl (by kernel_rfl) (by kernel_rfl) rfl rfl
                  case h1 =>
                    intro hg11
                    refine still_yes' H rfl rfl (by assumption) ?_
                    refine still_does H rfl (by first | exact does_field_pt fo_26_1 rfl | exact does_field fo_26_1 rfl) ?_; intro a H
                    refine still_yes' H rfl rfl (by assumption) ?_
                    refine still_does H rfl (does_load one_3 rfl (by first | exact hw.rd S (by omega) (by omega) | exact ownM.rd S (i := 0) rfl (by omega) (by omega) | exact boxM.rd S (i := 0) rfl rfl | exact boxM.rd S (i := 1) rfl rfl | exact boxM.rd S (i := 2) rfl rfl | exact boxM.rd S (i := 3) rfl rfl)) ?_; intro a H
                    refine still_yes' H rfl rfl (by assumption) ?_
                    refine still_does H rfl (by first | exact does_field_pt fo_23_0 rfl | exact does_field fo_23_0 rfl) ?_; intro a H
                    refine still_yes' H rfl rfl (by assumption) ?_
                    refine still_does H rfl (does_load one_3 rfl (by first | exact hw.rd S (by omega) (by omega) | exact ownM.rd S (i := 0) rfl (by omega) (by omega) | exact boxM.rd S (i := 0) rfl rfl | exact boxM.rd S (i := 1) rfl rfl | exact boxM.rd S (i := 2) rfl rfl | exact boxM.rd S (i := 3) rfl rfl)) ?_; intro a H
                    refine still_yes' H rfl rfl (by assumption) ?_
                    refine still_does H rfl (does_gtr rfl rfl) ?_; intro a H
                    exact wpStill_nil (H.strip 5 rfl rfl)
                  case k =>
                    clear H a; intro a H
                    refine still_does H rfl (by first | exact does_or rfl rfl rfl | exact does_pick rfl rfl rfl) ?_; clear H a; intro a H
                    refine wpStill_nil (hK47 _ ?_)
                    clear hK47 K47
                    refine cond_ H rfl (fun hc12 => ?_) (fun hc12 => ?_)
                    · try simp only [Bool.or_eq_true, Bool.and_eq_true, Bool.not_eq_true', Bool.or_eq_false_iff, Bool.and_eq_false_iff, Bool.not_eq_false', decide_eq_true_eq, decide_eq_false_iff_not, Int.not_lt, Int.not_le] at hc12
                      replace H := H.keep [] rfl
                      refine seq_list (fun K48 hK48 => ?_)
                      refine list_call H rfl rfl Try.func18 rfl rfl (law_works _) ?_; clear H a
                      rintro _ _ a ⟨rfl, S2⟩ H
                      replace S := S.call S2; clear S2
                      refine list_does H rfl (does_assign rfl) ?_; clear H a; intro a H
                      refine hK48 _ _ ?_
                      clear hK48 K48
                      refine wp_ret ?_
                      refine ret1 (fn := Try.f7) rfl H rfl ?_
                      exact ⟨rfl, (S.sel [] rfl rfl)⟩
                    · try simp only [Bool.or_eq_true, Bool.and_eq_true, Bool.not_eq_true', Bool.or_eq_false_iff, Bool.and_eq_false_iff, Bool.not_eq_false', decide_eq_true_eq, decide_eq_false_iff_not, Int.not_lt, Int.not_le] at hc12
                      refine wp_skip ?_
                      refine hK46 _ _ ?_
                      replace H := H.keep [5, 7, 8] rfl
                      refine seq_list (fun K49 hK49 => ?_)
                      refine list_does H rfl (by first | exact does_loadBox agg_23 sz_23 rfl S (i := 0) rfl rfl | exact does_loadBox agg_23 sz_23 rfl S (i := 1) rfl rfl | exact does_loadBox agg_23 sz_23 rfl S (i := 2) rfl rfl | exact does_loadBox agg_23 sz_23 rfl S (i := 3) rfl rfl) ?_; clear H a; intro a H
                      refine list_does H rfl (does_move rfl) ?_; clear H a; intro a H
                      refine list_does H rfl (by first | exact does_field_pt fo_26_0 rfl | exact does_field fo_26_0 rfl) ?_; clear H a; intro a H
                      refine list_does H rfl (does_load one_3 rfl (by first | exact hw.rd S (by omega) (by omega) | exact ownM.rd S (i := 0) rfl (by omega) (by omega) | exact boxM.rd S (i := 0) rfl rfl | exact boxM.rd S (i := 1) rfl rfl | exact boxM.rd S (i := 2) rfl rfl | exact boxM.rd S (i := 3) rfl rfl)) ?_; clear H a; intro a H
                      refine list_does H rfl (by first | exact does_field_pt fo_26_1 rfl | exact does_field fo_26_1 rfl) ?_; clear H a; intro a H
                      refine list_does H rfl (does_load one_3 rfl (by first | exact hw.rd S (by omega) (by omega) | exact ownM.rd S (i := 0) rfl (by omega) (by omega) | exact boxM.rd S (i := 0) rfl rfl | exact boxM.rd S (i := 1) rfl rfl | exact boxM.rd S (i := 2) rfl rfl | exact boxM.rd S (i := 3) rfl rfl)) ?_; clear H a; intro a H
                      refine list_call H rfl rfl Try.func28 rfl rfl (chain_Run links pitch limit l A cp sf st _ (hl.now S) hn) ?_; clear H a
                      rintro _ _ a ⟨rfl, S2⟩ H
                      replace S := S.call S2; clear S2
                      rw [run_of hW (isRun_true ⟨⟨by omega, by omega⟩, by (try dsimp only); omega⟩)] at H; simp only [runV, Int.toNat_natCast] at H
                      refine list_does H rfl (does_move rfl) ?_; clear H a; intro a H
                      refine list_does H rfl (does_extract rfl rfl) ?_; clear H a; intro a H
                      refine list_does H rfl (does_extract rfl rfl) ?_; clear H a; intro a H
                      refine list_alloc H rfl S ze_42 ?_; clear H a S; intro b21 _ a hb21 hbw21 S H
                      first | (refine list_store H S (i := 0) rfl rfl rfl rfl sz_42 rfl rfl ?_) | (refine list_store H S (i := 1) rfl rfl rfl rfl sz_42 rfl rfl ?_) | (refine list_store H S (i := 2) rfl rfl rfl rfl sz_42 rfl rfl ?_) | (refine list_store H S (i := 3) rfl rfl rfl rfl sz_42 rfl rfl ?_) | (refine list_store H S (i := 4) rfl rfl rfl rfl sz_42 rfl rfl ?_) | (refine list_store_own H S (i := 0) rfl rfl rfl (by omega) (by omega) sz_42 rfl ?_) | (refine list_store_own H S (i := 1) rfl rfl rfl (by omega) (by omega) sz_42 rfl ?_) | (refine list_store_own H S (i := 2) rfl rfl rfl (by omega) (by omega) sz_42 rfl ?_) | (refine list_store_own H S (i := 3) rfl rfl rfl (by omega) (by omega) sz_42 rfl ?_) | (refine list_store_own H S (i := 4) rfl rfl rfl (by omega) (by omega) sz_42 rfl ?_)
                      clear H a S; intro _ a S H
                      refine list_does H rfl (does_assign rfl) ?_; clear H a; intro a H
                      refine hK49 _ _ ?_
                      clear hK49 K49
                      refine wp_seq_k (fun K50 hK50 => ?_)
                      have ht1 := hG1.tri sf.toNat st.toNat sf.toNat (by show _ < links.toNat + 1; omega) (by show _ < links.toNat + 1; omega) (by show _ < links.toNat + 1; omega); have ht2 := hG1.diag sf.toNat (by show _ < links.toNat + 1; omega)
                      replace H := H.keep [5, 7, 8, 21, 22] rfl
                      refine seq_still (fun K51 hK51 => ?_)
                      refine still_does H rfl (does_move rfl) ?_; clear H a; intro a H
                      refine still_does H rfl (does_neq rfl rfl) ?_; clear H a; intro a H
                      refine still_does H rfl (does_move rfl) ?_; clear H a; intro a H
                      apply still_guard (i := 2) (g := 201) (t := 206) (b := false) 5 H rfl rfl (by kernel_rfl) (by kernel_rfl) rfl rfl
                      case h1 =>
                        intro hg3
                        refine still_yes' H rfl rfl (by assumption) ?_
                        refine still_does H rfl (by first | exact does_field_pt fo_42_0 rfl | exact does_field fo_42_0 rfl) ?_; intro a H
                        refine still_yes' H rfl rfl (by assumption) ?_
                        refine still_does H rfl (does_load one_3 rfl (by first | exact hw.rd S (by omega) (by omega) | exact ownM.rd S (i := 1) rfl (by omega) (by omega) | exact boxM.rd S (i := 0) rfl rfl | exact boxM.rd S (i := 1) rfl rfl | exact boxM.rd S (i := 2) rfl rfl | exact boxM.rd S (i := 3) rfl rfl | exact boxM.rd S (i := 4) rfl rfl)) ?_; intro a H
                        refine still_yes' H rfl rfl (by assumption) ?_
                        refine still_does H rfl (by first | exact does_field_pt fo_42_1 rfl | exact does_field fo_42_1 rfl) ?_; intro a H
                        refine still_yes' H rfl rfl (by assumption) ?_
                        refine still_does H rfl (does_load one_3 rfl (by first | exact hw.rd S (by omega) (by omega) | exact ownM.rd S (i := 1) rfl (by omega) (by omega) | exact boxM.rd S (i := 0) rfl rfl | exact boxM.rd S (i := 1) rfl rfl | exact boxM.rd S (i := 2) rfl rfl | exact boxM.rd S (i := 3) rfl rfl | exact boxM.rd S (i := 4) rfl rfl)) ?_; intro a H
                        refine still_yes' H rfl rfl (by assumption) ?_
                        refine still_does H rfl (does_gtr rfl rfl) ?_; intro a H
                        exact wpStill_nil (H.strip 5 rfl rfl)
                      case k =>
                        clear H a; intro a H
                        refine still_does H rfl (by first | exact does_or rfl rfl rfl | exact does_pick rfl rfl rfl) ?_; clear H a; intro a H
                        refine wpStill_nil (hK51 _ ?_)
                        clear hK51 K51
                        refine cond_ H rfl (fun hc13 => ?_) (fun hc13 => ?_)
                        · try simp only [Bool.or_eq_true, Bool.and_eq_true, Bool.not_eq_true', Bool.or_eq_false_iff, Bool.and_eq_false_iff, Bool.not_eq_false', decide_eq_true_eq, decide_eq_false_iff_not, Int.not_lt, Int.not_le] at hc13
                          exfalso; simp at hc13; omega
                        · try simp only [Bool.or_eq_true, Bool.and_eq_true, Bool.not_eq_true', Bool.or_eq_false_iff, Bool.and_eq_false_iff, Bool.not_eq_false', decide_eq_true_eq, decide_eq_false_iff_not, Int.not_lt, Int.not_le] at hc13
                          refine wp_skip ?_
                          refine hK50 _ _ ?_
                          replace H := H.keep [5, 7, 8, 21] rfl
                          refine seq_list (fun K52 hK52 => ?_)
                          refine list_does H rfl (by first | exact does_field_pt fo_42_0 rfl | exact does_field fo_42_0 rfl) ?_; clear H a; intro a H
                          refine list_does H rfl (does_load one_3 rfl (by first | exact hw.rd S (by omega) (by omega) | exact ownM.rd S (i := 1) rfl (by omega) (by omega) | exact boxM.rd S (i := 0) rfl rfl | exact boxM.rd S (i := 1) rfl rfl | exact boxM.rd S (i := 2) rfl rfl | exact boxM.rd S (i := 3) rfl rfl | exact boxM.rd S (i := 4) rfl rfl)) ?_; clear H a; intro a H
                          refine list_does H rfl (by first | exact does_field_pt fo_42_1 rfl | exact does_field fo_42_1 rfl) ?_; clear H a; intro a H
                          refine list_does H rfl (does_load one_3 rfl (by first | exact hw.rd S (by omega) (by omega) | exact ownM.rd S (i := 1) rfl (by omega) (by omega) | exact boxM.rd S (i := 0) rfl rfl | exact boxM.rd S (i := 1) rfl rfl | exact boxM.rd S (i := 2) rfl rfl | exact boxM.rd S (i := 3) rfl rfl | exact boxM.rd S (i := 4) rfl rfl)) ?_; clear H a; intro a H
                          refine list_does H rfl (by first | exact does_field_pt fo_42_0 rfl | exact does_field fo_42_0 rfl) ?_; clear H a; intro a H
                          refine list_does H rfl (does_load one_3 rfl (by first | exact hw.rd S (by omega) (by omega) | exact ownM.rd S (i := 1) rfl (by omega) (by omega) | exact boxM.rd S (i := 0) rfl rfl | exact boxM.rd S (i := 1) rfl rfl | exact boxM.rd S (i := 2) rfl rfl | exact boxM.rd S (i := 3) rfl rfl | exact boxM.rd S (i := 4) rfl rfl)) ?_; clear H a; intro a H
                          refine list_does H rfl (by first | exact does_field_pt fo_42_1 rfl | exact does_field fo_42_1 rfl) ?_; clear H a; intro a H
                          refine list_does H rfl (does_load one_3 rfl (by first | exact hw.rd S (by omega) (by omega) | exact ownM.rd S (i := 1) rfl (by omega) (by omega) | exact boxM.rd S (i := 0) rfl rfl | exact boxM.rd S (i := 1) rfl rfl | exact boxM.rd S (i := 2) rfl rfl | exact boxM.rd S (i := 3) rfl rfl | exact boxM.rd S (i := 4) rfl rfl)) ?_; clear H a; intro a H
                          refine list_does H rfl (by first | exact does_field_pt fo_26_2 rfl | exact does_field fo_26_2 rfl) ?_; clear H a; intro a H
                          refine list_does H rfl (does_load one_3 rfl (by first | exact hw.rd S (by omega) (by omega) | exact ownM.rd S (i := 1) rfl (by omega) (by omega) | exact boxM.rd S (i := 0) rfl rfl | exact boxM.rd S (i := 1) rfl rfl | exact boxM.rd S (i := 2) rfl rfl | exact boxM.rd S (i := 3) rfl rfl | exact boxM.rd S (i := 4) rfl rfl)) ?_; clear H a; intro a H
                          refine list_does H rfl (does_min rfl rfl) ?_; clear H a; intro a H
                          refine list_does H rfl (does_max rfl rfl) ?_; clear H a; intro a H
                          refine list_build' H rfl S sl_29 sz_3 ze_3 rfl rfl rfl rfl rfl rfl rfl rfl rfl ?_; clear H a S; intro A1 _ a hA1 S H
                          replace S := S.recell (i := 0) rfl (cell' := fun k _ => .int .i64 (tryF (-(M st.toNat sf.toNat)) (M sf.toNat st.toNat) sl k)) tryF_cells
                          refine list_does H rfl (does_assign rfl) ?_; clear H a; intro a H
                          refine hK52 _ _ ?_
                          clear hK52 K52
                          refine wp_seq_k (fun K53 hK53 => ?_)
                          replace H := H.keep [5, 7, 8, 23] rfl
                          refine seq_still (fun K54 hK54 => ?_)
                          refine still_does H rfl (does_assign rfl) ?_; clear H a; intro a H
                          refine wpStill_nil (hK54 _ ?_)
                          clear hK54 K54
                          refine wp_block ?_
                          refine loop_st (X := Nat) (R0 := _) [5, 7, 8, 23] H rfl (fun t => [(24, .int .i64 (t : Int))]) (fun t => []) (fun g t => t ≤ 3 ∧ g + t = 3) (3) 0 ?_ (S.sel [0, 1, 2, 3, 4, 5] rfl rfl) (H.keep [24, 5, 7, 8, 23] rfl) ?_
                          · exact ⟨by omega, by omega⟩
                          · intro g4 x4 a w4 hp S H K55 hK55
                            obtain ⟨t, rfl⟩ : ∃ y, y = x4 := ⟨_, rfl⟩
                            skip
                            refine wp_seq_k (fun K56 hK56 => ?_)
                            replace H := H.keep [5, 7, 8, 23, 24] rfl
                            refine seq_still (fun K57 hK57 => ?_)
                            refine still_does H rfl (does_move rfl) ?_; clear H a; intro a H
                            refine still_does H rfl (does_move rfl) ?_; clear H a; intro a H
                            refine still_does H rfl (does_len sl_29 rfl) ?_; clear H a; intro a H
                            refine still_does H rfl (does_lss rfl rfl) ?_; clear H a; intro a H
                            refine wpStill_nil (hK57 _ ?_)
                            clear hK57 K57
                            refine cond_ H rfl (fun hc14 => ?_) (fun hc14 => ?_)
                            · try simp only [Bool.or_eq_true, Bool.and_eq_true, Bool.not_eq_true', Bool.or_eq_false_iff, Bool.and_eq_false_iff, Bool.not_eq_false', decide_eq_true_eq, decide_eq_false_iff_not, Int.not_lt, Int.not_le] at hc14
                              refine wp_skip ?_
                              refine hK56 _ _ ?_
                              refine wp_seq_k (fun K58 hK58 => ?_)
                              refine wp_block ?_
                              have htr := tryF_in (lo := -(M st.toNat sf.toNat)) (hi := M sf.toNat st.toNat) (x := sl) (by omega) t
                              have hwt := wit_of hW (isRun_true (a := sf) (b := st) ⟨⟨by omega, by omega⟩, by (try dsimp only); omega⟩) htr.1 htr.2
                              have hwp := wit_pos (a := sf.toNat) (b := st.toNat) h0 hW1 (by omega) (by (try dsimp only); omega) htr.1 htr.2
                              have hpos : posB (⟨links, pitch, limit⟩ : Chain) l links.toNat (witN (witS M sf.toNat st.toNat (tryF (-(M st.toNat sf.toNat)) (M sf.toNat st.toNat) sl t))) = true := posB_iff.2 ⟨by (try dsimp only); omega, hwp.1⟩
                              have hfn : ∀ k, k < links.toNat → 0 ≤ (witN (witS M sf.toNat st.toNat (tryF (-(M st.toNat sf.toNat)) (M sf.toNat st.toNat) sl t))) k ∧ (witN (witS M sf.toNat st.toNat (tryF (-(M st.toNat sf.toNat)) (M sf.toNat st.toNat) sl t))) k ≤ 100000 := fun k hk => by have := hwp.1.links k hk; (try dsimp only at this); omega
                              replace H := H.keep [5, 7, 8, 23, 24] rfl
                              replace S := S.drew
                              refine seq_wq [(0, true), (1, true), (2, true), (3, true), (4, true), (5, true), (6, true), (7, true), (8, true), (9, true), (10, false), (11, true), (12, true), (13, true), (14, true), (15, true)] (by kernel_rfl) (by kernel_rfl) (S.sel [0, 1, 2, 3, 4, 5] rfl rfl) (fun K59 hK59 => ?_)
                              refine wq_does H rfl rfl (fun _ S => by first | exact does_loadBox agg_23 sz_23 rfl S (i := 0) rfl rfl | exact does_loadBox agg_23 sz_23 rfl S (i := 1) rfl rfl | exact does_loadBox agg_23 sz_23 rfl S (i := 2) rfl rfl | exact does_loadBox agg_23 sz_23 rfl S (i := 3) rfl rfl | exact does_loadBox agg_23 sz_23 rfl S (i := 4) rfl rfl | exact does_loadBox agg_23 sz_23 rfl S (i := 5) rfl rfl) ?_; clear H a; intro a H
                              refine wq_does H rfl rfl (fun _ S => does_move rfl) ?_; clear H a; intro a H
                              refine wq_does H rfl rfl (fun _ S => by first | exact does_field_pt fo_26_0 rfl | exact does_field fo_26_0 rfl) ?_; clear H a; intro a H
                              refine wq_does H rfl rfl (fun _ S => does_load one_3 rfl (by first | exact hw.rd S (by omega) (by omega) | exact ownM.rd S (i := 2) rfl (by omega) (by omega) | exact ownM.rd S (i := 0) rfl (by omega) (by omega) | exact boxM.rd S (i := 0) rfl rfl | exact boxM.rd S (i := 1) rfl rfl | exact boxM.rd S (i := 2) rfl rfl | exact boxM.rd S (i := 3) rfl rfl | exact boxM.rd S (i := 4) rfl rfl | exact boxM.rd S (i := 5) rfl rfl)) ?_; clear H a; intro a H
                              refine wq_does H rfl rfl (fun _ S => by first | exact does_field_pt fo_26_1 rfl | exact does_field fo_26_1 rfl) ?_; clear H a; intro a H
                              refine wq_does H rfl rfl (fun _ S => does_load one_3 rfl (by first | exact hw.rd S (by omega) (by omega) | exact ownM.rd S (i := 2) rfl (by omega) (by omega) | exact ownM.rd S (i := 0) rfl (by omega) (by omega) | exact boxM.rd S (i := 0) rfl rfl | exact boxM.rd S (i := 1) rfl rfl | exact boxM.rd S (i := 2) rfl rfl | exact boxM.rd S (i := 3) rfl rfl | exact boxM.rd S (i := 4) rfl rfl | exact boxM.rd S (i := 5) rfl rfl)) ?_; clear H a; intro a H
                              refine wq_does H rfl rfl (fun _ S => does_move rfl) ?_; clear H a; intro a H
                              refine wq_does H rfl rfl (fun _ S => does_move rfl) ?_; clear H a; intro a H
                              refine wq_does H rfl rfl (fun _ S => by first | exact does_indexN sl_29 sz_3 rfl rfl (by first | exact hw.adr (by omega) | exact ownM.adr S (i := 2) rfl (by omega) | exact ownM.adr S (i := 0) rfl (by omega)) (by first | omega | omega) | exact does_index sl_29 sz_3 rfl rfl (by first | exact hw.adr (by omega) | exact ownM.adr S (i := 2) rfl (by omega) | exact ownM.adr S (i := 0) rfl (by omega)) (by omega) (by first | omega | omega)) ?_; clear H a; intro a H
                              refine wq_does H rfl rfl (fun _ S => does_load one_3 rfl (by first | exact hw.rd S (by omega) (by omega) | exact ownM.rd S (i := 2) rfl (by omega) (by omega) | exact ownM.rd S (i := 0) rfl (by omega) (by omega) | exact boxM.rd S (i := 0) rfl rfl | exact boxM.rd S (i := 1) rfl rfl | exact boxM.rd S (i := 2) rfl rfl | exact boxM.rd S (i := 3) rfl rfl | exact boxM.rd S (i := 4) rfl rfl | exact boxM.rd S (i := 5) rfl rfl)) ?_; clear H a; intro a H
                              refine wq_eff rfl ?_
                              refine list_call H rfl rfl Try.func19 rfl rfl (ret_imp (chain_Witness links pitch limit l A cp sf st (tryF (-(M st.toNat sf.toNat)) (M sf.toNat st.toNat) sl t) _ (hl.now S) hn) (fun _ _ h => wit_ok hwt h)) ?_; clear H a
                              rintro _ _ a ⟨A7, c7, rfl, S2⟩ H
                              replace S := S.call S2; clear S2
                              refine wpList_nil (And.intro (S.sel [1, 2, 3, 4, 5, 6] rfl rfl) ?_)
                              refine wq_does H rfl rfl (fun _ S => does_move rfl) ?_; clear H a; intro a H
                              refine wq_does H rfl rfl (fun _ S => does_extract rfl rfl) ?_; clear H a; intro a H
                              refine wq_does H rfl rfl (fun _ S => does_extract rfl rfl) ?_; clear H a; intro a H
                              refine wq_does H rfl rfl (fun _ S => does_assign rfl) ?_; clear H a; intro a H
                              refine wq_does H rfl rfl (fun _ S => does_assign rfl) ?_; clear H a; intro a H
                              refine wq_nil ?_
                              refine hK59 _ _ ?_
                              clear hK59 K59
                              replace H := H.keep [5, 7, 8, 23, 24, 25, 26] rfl
                              replace S := S.drew
                              refine seq_wq [(0, true), (1, true), (2, true), (3, true), (4, true), (5, true), (6, false), (7, true), (8, true), (9, true), (10, true), (11, true), (12, true), (13, true), (14, true), (16, true), (17, true), (18, true), (19, true), (15, false), (20, true), (21, true)] (by kernel_rfl) (by kernel_rfl) (S.sel [0, 1, 2, 3, 4, 5, 6] rfl rfl) (fun K60 hK60 => ?_)
                              refine wq_does H rfl rfl (fun _ S => does_move rfl) ?_; clear H a; intro a H
                              refine wq_does H rfl rfl (fun _ S => does_neq_same rfl rfl rfl) ?_; clear H a; intro a H
                              refine wq_does H rfl rfl (fun _ S => does_move rfl) ?_; clear H a; intro a H
                              refine wq_yes H rfl rfl rfl rfl (fun _ S => by first | exact does_loadBox agg_23 sz_23 rfl S (i := 0) rfl rfl | exact does_loadBox agg_23 sz_23 rfl S (i := 1) rfl rfl | exact does_loadBox agg_23 sz_23 rfl S (i := 2) rfl rfl | exact does_loadBox agg_23 sz_23 rfl S (i := 3) rfl rfl | exact does_loadBox agg_23 sz_23 rfl S (i := 4) rfl rfl | exact does_loadBox agg_23 sz_23 rfl S (i := 5) rfl rfl | exact does_loadBox agg_23 sz_23 rfl S (i := 6) rfl rfl) ?_; clear H a; intro a H
                              refine wq_yes H rfl rfl rfl rfl (fun _ S => does_move rfl) ?_; clear H a; intro a H
                              refine wq_yes H rfl rfl rfl rfl (fun _ S => does_move rfl) ?_; clear H a; intro a H
                              refine wq_eff rfl ?_
                              refine list_yes H rfl rfl ?_
                              refine list_call H rfl rfl Try.func32 rfl rfl (law_Possible links pitch limit l A cp A7 links.toNat c7 (witN (witS M sf.toNat st.toNat (tryF (-(M st.toNat sf.toNat)) (M sf.toNat st.toNat) sl t))) _ (hl.now S) hn (ownM.inS S (i := 0) rfl) (by omega) h0) ?_; clear H a
                              rintro _ _ a ⟨rfl, S2⟩ H
                              replace S := S.call S2; clear S2
                              rw [hpos] at H
                              refine wpList_nil (And.intro (S.sel [0, 1, 2, 3, 4, 5, 6] rfl rfl) ?_)
                              refine wq_yes H rfl rfl rfl rfl (fun _ S => does_not rfl) ?_; clear H a; intro a H
                              refine wq_does H rfl rfl (fun _ S => by first | exact does_or rfl rfl rfl | exact does_pick rfl rfl rfl) ?_; clear H a; intro a H
                              refine wq_does H rfl rfl (fun _ S => does_move rfl) ?_; clear H a; intro a H
                              refine wq_yes H rfl rfl rfl rfl (fun _ S => does_move rfl) ?_; clear H a; intro a H
                              refine wq_yes H rfl rfl rfl rfl (fun _ S => by first | exact does_field_pt fo_26_0 rfl | exact does_field fo_26_0 rfl) ?_; clear H a; intro a H
                              refine wq_yes H rfl rfl rfl rfl (fun _ S => does_load one_3 rfl (by first | exact hw.rd S (by omega) (by omega) | exact ownM.rd S (i := 3) rfl (by omega) (by omega) | exact ownM.rd S (i := 1) rfl (by omega) (by omega) | exact boxM.rd S (i := 0) rfl rfl | exact boxM.rd S (i := 1) rfl rfl | exact boxM.rd S (i := 2) rfl rfl | exact boxM.rd S (i := 3) rfl rfl | exact boxM.rd S (i := 4) rfl rfl | exact boxM.rd S (i := 5) rfl rfl | exact boxM.rd S (i := 6) rfl rfl)) ?_; clear H a; intro a H
                              refine wq_yes H rfl rfl rfl rfl (fun _ S => by first | exact does_field_pt fo_26_1 rfl | exact does_field fo_26_1 rfl) ?_; clear H a; intro a H
                              refine wq_yes H rfl rfl rfl rfl (fun _ S => does_load one_3 rfl (by first | exact hw.rd S (by omega) (by omega) | exact ownM.rd S (i := 3) rfl (by omega) (by omega) | exact ownM.rd S (i := 1) rfl (by omega) (by omega) | exact boxM.rd S (i := 0) rfl rfl | exact boxM.rd S (i := 1) rfl rfl | exact boxM.rd S (i := 2) rfl rfl | exact boxM.rd S (i := 3) rfl rfl | exact boxM.rd S (i := 4) rfl rfl | exact boxM.rd S (i := 5) rfl rfl | exact boxM.rd S (i := 6) rfl rfl)) ?_; clear H a; intro a H
                              refine wq_yes H rfl rfl rfl rfl (fun _ S => does_move rfl) ?_; clear H a; intro a H
                              refine wq_yes H rfl rfl rfl rfl (fun _ S => does_move rfl) ?_; clear H a; intro a H
                              refine wq_yes H rfl rfl rfl rfl (fun _ S => by first | exact does_indexN sl_29 sz_3 rfl rfl (by first | exact hw.adr (by omega) | exact ownM.adr S (i := 3) rfl (by omega) | exact ownM.adr S (i := 1) rfl (by omega)) (by first | omega | omega) | exact does_index sl_29 sz_3 rfl rfl (by first | exact hw.adr (by omega) | exact ownM.adr S (i := 3) rfl (by omega) | exact ownM.adr S (i := 1) rfl (by omega)) (by omega) (by first | omega | omega)) ?_; clear H a; intro a H
                              refine wq_yes H rfl rfl rfl rfl (fun _ S => does_load one_3 rfl (by first | exact hw.rd S (by omega) (by omega) | exact ownM.rd S (i := 3) rfl (by omega) (by omega) | exact ownM.rd S (i := 1) rfl (by omega) (by omega) | exact boxM.rd S (i := 0) rfl rfl | exact boxM.rd S (i := 1) rfl rfl | exact boxM.rd S (i := 2) rfl rfl | exact boxM.rd S (i := 3) rfl rfl | exact boxM.rd S (i := 4) rfl rfl | exact boxM.rd S (i := 5) rfl rfl | exact boxM.rd S (i := 6) rfl rfl)) ?_; clear H a; intro a H
                              refine wq_eff rfl ?_
                              refine list_yes H rfl rfl ?_
                              refine list_call H rfl rfl Try.func33 rfl rfl (law_sumI A7 links.toNat c7 (witN (witS M sf.toNat st.toNat (tryF (-(M st.toNat sf.toNat)) (M sf.toNat st.toNat) sl t))) sf st _ (ownM.inS S (i := 0) rfl) (by omega) (by omega) (by omega) (by omega) hfn) ?_; clear H a
                              rintro _ _ a ⟨rfl, S2⟩ H
                              replace S := S.call S2; clear S2
                              rw [hwp.2] at H
                              refine wpList_nil (And.intro (S.sel [0, 1, 2, 3, 4, 5, 6] rfl rfl) ?_)
                              refine wq_yes H rfl rfl rfl rfl (fun _ S => does_neq_same rfl rfl rfl) ?_; clear H a; intro a H
                              refine wq_does H rfl rfl (fun _ S => by first | exact does_or rfl rfl rfl | exact does_pick rfl rfl rfl) ?_; clear H a; intro a H
                              refine wq_nil ?_
                              refine hK60 _ _ ?_
                              clear hK60 K60
                              refine cond_ H rfl (fun hc15 => ?_) (fun hc15 => ?_)
                              · skip
                                cases hc15
                              · skip
                                refine wp_skip ?_
                                refine hK58 _ _ ?_
                                replace H := H.keep [5, 7, 8, 23, 24] rfl
                                refine one_still ?_
                                refine still_does H rfl (does_move rfl) ?_; clear H a; intro a H
                                refine still_does H rfl (does_add rfl rfl (by unfold i64ok; omega)) ?_; clear H a; intro a H
                                refine still_does H rfl (does_assign rfl) ?_; clear H a; intro a H
                                refine wpStill_nil ?_
                                exact hK55 (g4 - 1) (t + 1) a _ (by omega) (by omega) (S.sel [1, 2, 3, 4, 5, 6] rfl rfl) (H.keep [24, 5, 7, 8, 23] rfl)
                            · try simp only [Bool.or_eq_true, Bool.and_eq_true, Bool.not_eq_true', Bool.or_eq_false_iff, Bool.and_eq_false_iff, Bool.not_eq_false', decide_eq_true_eq, decide_eq_false_iff_not, Int.not_lt, Int.not_le] at hc14
                              refine wp_exit ?_
                              refine hK53 _ _ ?_
                              replace H := H.keep [] rfl
                              refine seq_list (fun K62 hK62 => ?_)
                              refine list_call H rfl rfl Try.func18 rfl rfl (law_works _) ?_; clear H a
                              rintro _ _ a ⟨rfl, S2⟩ H
                              replace S := S.call S2; clear S2
                              refine list_does H rfl (does_assign rfl) ?_; clear H a; intro a H
                              refine hK62 _ _ ?_
                              clear hK62 K62
                              refine wp_ret ?_
                              refine ret1 (fn := Try.f7) rfl H rfl ?_
                              exact ⟨rfl, (S.sel [] rfl rfl)⟩

end Go.Proofs.Ytlejjfhgfajoiaa
