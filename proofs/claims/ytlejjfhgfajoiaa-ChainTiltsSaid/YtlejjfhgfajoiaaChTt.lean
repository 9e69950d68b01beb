/- ChTt. Printed by gen.py. -/
import Derived.Test.YtlejjfhgfajoiaaChPo
import Derived.Test.YtlejjfhgfajoiaaChSl
import Derived.Test.YtlejjfhgfajoiaaPt
namespace Go.Proofs.Ytlejjfhgfajoiaa
open Go.RowKit
set_option linter.unusedVariables false
set_option linter.unusedSimpArgs false


theorem skD_comm (M N : IM) (e : Nat) : skD M N e = skD N M e := by unfold skD; omega
theorem skTo_comm (M N : IM) (ev : Nat) : ∀ k, skTo M N ev k = skTo N M ev k := by
  intro k
  induction k with
  | zero => rfl
  | succ k ih => rw [skTo, skTo, ih, skD_comm M N]
theorem skTo_max {M N : IM} {ev : Nat} : ∀ k q, q < k → skD M N ((q + 1) * ev) ≤ (skTo M N ev k).2 := by
  intro k
  induction k with
  | zero => intro q hq; omega
  | succ k ih =>
    intro q hq
    rw [skTo]
    split
    · rename_i h
      by_cases e : q = k
      · subst e; exact Int.le_refl _
      · rcases h with h | h
        · omega
        · have := ih q (by omega); dsimp only; omega
    · rename_i h
      by_cases e : q = k
      · subst e; omega
      · exact ih q (by omega)
/-- What Skew says of two valid chains. -/
theorem skew_says {a b : Chain} {k l : List Gauge} {ev : Int} (ha : checkE a k = 0) (hb : checkE b l = 0) : (skewO a k b l ev = (0, 0, 1) ∨ skewO a k b l ev = (0, 0, 3)) ∨
    (a.links = b.links ∧ 1 ≤ ev ∧ ev ≤ a.links ∧ ∃ M N, weaveW a k yes = some M ∧ weaveW b l yes = some N ∧ skewO a k b l ev = ((skTo M N ev.toNat (a.links.toNat / ev.toNat)).1, (skTo M N ev.toNat (a.links.toNat / ev.toNat)).2, 0)) := by
  unfold skewO
  rw [if_neg (by omega), if_neg (by omega)]
  rcases whole_cases ha (decide (a.links = b.links) && (decide (1 ≤ ev) && decide (ev ≤ a.links))) with ⟨_, h2⟩ | ⟨_, _, h2⟩ | ⟨M, h1, hM, h2⟩
  · rw [h2]; exact .inl (.inl rfl)
  · rw [h2]; exact .inl (.inr rfl)
  · rw [h2]
    rcases whole_cases hb (decide (a.links = b.links) && (decide (1 ≤ ev) && decide (ev ≤ a.links))) with ⟨h3, _⟩ | ⟨_, _, h4⟩ | ⟨N, _, hN, h4⟩
    · rw [h1] at h3; cases h3
    · rw [h4]; exact .inl (.inr rfl)
    · rw [h4]
      simp only [Bool.and_eq_true, decide_eq_true_eq] at h1
      exact .inr ⟨h1.1, h1.2.1, h1.2.2, M, N, hM, hN, rfl⟩
theorem skew_comm {a b : Chain} {k l : List Gauge} {ev : Int} (ha : checkE a k = 0) (hb : checkE b l = 0) : skewO b l a k ev = skewO a k b l ev := by
  by_cases hask : (decide (a.links = b.links) && (decide (1 ≤ ev) && decide (ev ≤ a.links))) = true
  · have h1 := hask
    simp only [Bool.and_eq_true, decide_eq_true_eq] at h1
    have hask2 : (decide (b.links = a.links) && (decide (1 ≤ ev) && decide (ev ≤ b.links))) = true := by
      simp only [Bool.and_eq_true, decide_eq_true_eq]; omega
    unfold skewO
    rw [if_neg (by omega), if_neg (by omega), if_neg (by omega), if_neg (by omega), hask, hask2]
    rcases whole_cases ha true with ⟨h2, _⟩ | ⟨_, _, h2⟩ | ⟨M, _, hM, h2⟩ <;> rcases whole_cases hb true with ⟨h3, _⟩ | ⟨_, _, h3⟩ | ⟨N, _, hN, h3⟩
    · cases h2
    · cases h2
    · cases h2
    · cases h3
    · rw [h2, h3]
    · rw [h2, h3]
    · cases h3
    · rw [h2, h3]
    · rw [h2, h3]
      dsimp only
      rw [skTo_comm N M, h1.1]
  · have hf : (decide (a.links = b.links) && (decide (1 ≤ ev) && decide (ev ≤ a.links))) = false := by simpa using hask
    have hf2 : (decide (b.links = a.links) && (decide (1 ≤ ev) && decide (ev ≤ b.links))) = false := by
      rw [← Bool.not_eq_true] at hf ⊢
      simp only [Bool.and_eq_true, decide_eq_true_eq] at hf ⊢
      omega
    unfold skewO
    rw [if_neg (by omega), if_neg (by omega), if_neg (by omega), if_neg (by omega), hf, hf2]
    rcases whole_cases ha false with ⟨_, h2⟩ | ⟨h2, _⟩ | ⟨M, h2, _⟩
    · rcases whole_cases hb false with ⟨_, h3⟩ | ⟨h3, _⟩ | ⟨N, h3, _⟩
      · rw [h2, h3]
      · cases h3
      · cases h3
    · cases h2
    · cases h2


set_option maxRecDepth 100000 in
set_option maxHeartbeats 1000000 in
theorem law_ChainTilts (al ap ax : Int) (k : List Gauge) (A : Option Addr) (cp : Nat) (bl bp bx : Int) (l : List Gauge) (B : Option Addr) (cq : Nat) (wa : List Int) (WA : Option Addr) (wac : Nat) (wb : List Int) (WB : Option Addr) (wbc : Nat) (every : Int) (w : World) (hk : InS w noF 4 A k.length (gcell k)) (hkn : k.length ≤ 9223372036854775807) (hl : InS w noF 4 B l.length (gcell l)) (hln : l.length ≤ 9223372036854775807) (hwa : InS w noF 1 WA wa.length (icl wa)) (hwan : wa.length ≤ 9223372036854775807) (hwb : InS w noF 1 WB wb.length (icl wb)) (hwbn : wb.length ≤ 9223372036854775807) :
    Calls Try.prog 9 [.agg [.int .i64 al, .int .i64 ap, .int .i64 ax, .slice A k.length cp].toArray, .agg [.int .i64 bl, .int .i64 bp, .int .i64 bx, .slice B l.length cq].toArray, .agg [.slice WA wa.length wac, .slice WB wb.length wbc, .int .i64 every].toArray].toArray w (Ret (fun v w' => v = .bool true ∧ St w noF [] w')) := by
  refine enter Try.func9 rfl Try.ntmps9 rfl (fun a H => ?_)
  have S := St.start w
  refine seq_list (fun K1 hK1 => ?_)
  refine list_box H rfl S rfl rfl ?_; clear H a S; intro b3 _ a hb3 hbw3 S H
  refine list_box H rfl S rfl rfl ?_; clear H a S; intro b4 _ a hb4 hbw4 S H
  refine list_box H rfl S rfl rfl ?_; clear H a S; intro b5 _ a hb5 hbw5 S H
  refine list_does H rfl (does_assign rfl) ?_; clear H a; intro a H
  refine hK1 _ _ ?_
  clear hK1 K1
  refine wp_seq_k (fun K2 hK2 => ?_)
  replace H := H.keep [3, 4, 5] rfl
  refine seq_list (fun K3 hK3 => ?_)
  refine list_does H rfl (by first | exact does_field_pt fo_46_1 rfl | exact does_field fo_46_1 rfl) ?_; clear H a; intro a H
  refine list_does H rfl (does_load one_24 rfl (by first | exact boxM.rd S (i := 0) rfl rfl | exact boxM.rd S (i := 1) rfl rfl | exact boxM.rd S (i := 2) rfl rfl)) ?_; clear H a; intro a H
  refine list_call H rfl rfl Try.func17 rfl rfl (law_Far A k.length cp _) ?_; clear H a
  rintro _ _ a ⟨rfl, rfl⟩ H
  refine list_does H rfl (does_move rfl) ?_; clear H a; intro a H
  refine list_still 3 ?_
  apply still_guard (i := 3) (g := 18) (t := 21) (b := false) 3 H rfl rfl (by kernel_rfl) (by kernel_rfl) rfl rfl
  case h1 =>
    intro hg4
    refine still_yes' H rfl rfl (by assumption) ?_
    refine still_does H rfl (by first | exact does_field_pt fo_46_1 rfl | exact does_field fo_46_1 rfl) ?_; intro a H
    refine still_yes' H rfl rfl (by assumption) ?_
    refine still_does H rfl (does_load one_24 rfl (by first | exact boxM.rd S (i := 0) rfl rfl | exact boxM.rd S (i := 1) rfl rfl | exact boxM.rd S (i := 2) rfl rfl)) ?_; intro a H
    refine still_yes' H rfl rfl (by assumption) ?_
    refine still_call H rfl rfl Try.func17 rfl rfl (law_Far B l.length cq _) ?_; intro a H
    exact wpStill_nil (H.strip 3 rfl rfl)
  case k =>
    clear H a; intro a H
    refine wpStill_nil ?_
    refine list_does H rfl (by first | exact does_or rfl rfl rfl | exact does_pick rfl rfl rfl) ?_; clear H a; intro a H
    refine list_does H rfl (does_move rfl) ?_; clear H a; intro a H
    apply list_guard (i := 8) (g := 23) (t := 29) (b := false) 6 H S rfl rfl (by kernel_rfl) (by kernel_rfl) rfl rfl
    case h1 =>
      intro hg9
      refine list_yes' H rfl rfl (by assumption) ?_
      refine list_does H rfl (by first | exact does_field_pt fo_46_0 rfl | exact does_field fo_46_0 rfl) ?_; intro a H
      refine list_yes' H rfl rfl (by assumption) ?_
      refine list_does H rfl (by first | exact does_loadBox agg_23 sz_23 rfl S (i := 0) rfl rfl | exact does_loadBox agg_23 sz_23 rfl S (i := 1) rfl rfl | exact does_loadBox agg_23 sz_23 rfl S (i := 2) rfl rfl) ?_; intro a H
      refine list_yes' H rfl rfl (by assumption) ?_
      refine list_does H rfl (by first | exact does_field_pt fo_46_1 rfl | exact does_field fo_46_1 rfl) ?_; intro a H
      refine list_yes' H rfl rfl (by assumption) ?_
      refine list_does H rfl (does_load one_24 rfl (by first | exact boxM.rd S (i := 0) rfl rfl | exact boxM.rd S (i := 1) rfl rfl | exact boxM.rd S (i := 2) rfl rfl)) ?_; intro a H
      refine list_yes' H rfl rfl (by assumption) ?_
      refine list_call H rfl rfl Try.func24 rfl rfl (ref_Check al ap ax k A cp _ (hk.now S) hkn) ?_; clear H a
      rintro _ _ a ⟨rfl, S2⟩ H
      replace S := S.call S2; clear S2
      refine list_yes' H rfl rfl (by assumption) ?_
      refine list_does H rfl (does_neq rfl rfl) ?_; intro a H
      exact wpList_nil ⟨H.strip 6 rfl rfl, (S.sel [0, 1, 2] rfl rfl)⟩
    case k =>
      clear H a S; intro a _ H S
      refine list_does H rfl (by first | exact does_or rfl rfl rfl | exact does_pick rfl rfl rfl) ?_; clear H a; intro a H
      refine list_does H rfl (does_move rfl) ?_; clear H a; intro a H
      apply list_guard (i := 16) (g := 31) (t := 37) (b := false) 6 H S rfl rfl (by kernel_rfl) (by kernel_rfl) rfl rfl
      case h1 =>
        intro hg17
        refine list_yes' H rfl rfl (by assumption) ?_
        refine list_does H rfl (by first | exact does_field_pt fo_46_0 rfl | exact does_field fo_46_0 rfl) ?_; intro a H
        refine list_yes' H rfl rfl (by assumption) ?_
        refine list_does H rfl (by first | exact does_loadBox agg_23 sz_23 rfl S (i := 0) rfl rfl | exact does_loadBox agg_23 sz_23 rfl S (i := 1) rfl rfl | exact does_loadBox agg_23 sz_23 rfl S (i := 2) rfl rfl) ?_; intro a H
        refine list_yes' H rfl rfl (by assumption) ?_
        refine list_does H rfl (by first | exact does_field_pt fo_46_1 rfl | exact does_field fo_46_1 rfl) ?_; intro a H
        refine list_yes' H rfl rfl (by assumption) ?_
        refine list_does H rfl (does_load one_24 rfl (by first | exact boxM.rd S (i := 0) rfl rfl | exact boxM.rd S (i := 1) rfl rfl | exact boxM.rd S (i := 2) rfl rfl)) ?_; intro a H
        refine list_yes' H rfl rfl (by assumption) ?_
        refine list_call H rfl rfl Try.func24 rfl rfl (ref_Check bl bp bx l B cq _ (hl.now S) hln) ?_; clear H a
        rintro _ _ a ⟨rfl, S2⟩ H
        replace S := S.call S2; clear S2
        refine list_yes' H rfl rfl (by assumption) ?_
        refine list_does H rfl (does_neq rfl rfl) ?_; intro a H
        exact wpList_nil ⟨H.strip 6 rfl rfl, (S.sel [0, 1, 2] rfl rfl)⟩
      case k =>
        clear H a S; intro a _ H S
        refine list_does H rfl (by first | exact does_or rfl rfl rfl | exact does_pick rfl rfl rfl) ?_; clear H a; intro a H
        refine list_does H rfl (does_move rfl) ?_; clear H a; intro a H
        refine list_still 4 ?_
        apply still_guard (i := 24) (g := 39) (t := 43) (b := false) 4 H rfl rfl (by kernel_rfl) (by kernel_rfl) rfl rfl
        case h1 =>
          intro hg25
          refine still_yes' H rfl rfl (by assumption) ?_
          refine still_does H rfl (by first | exact does_field_pt fo_46_0 rfl | exact does_field fo_46_0 rfl) ?_; intro a H
          refine still_yes' H rfl rfl (by assumption) ?_
          refine still_does H rfl (by first | exact does_field_pt fo_23_0 rfl | exact does_field fo_23_0 rfl) ?_; intro a H
          refine still_yes' H rfl rfl (by assumption) ?_
          refine still_does H rfl (does_load one_3 rfl (by first | exact boxM.rd S (i := 0) rfl rfl | exact boxM.rd S (i := 1) rfl rfl | exact boxM.rd S (i := 2) rfl rfl)) ?_; intro a H
          refine still_yes' H rfl rfl (by assumption) ?_
          refine still_does H rfl (does_gtr rfl rfl) ?_; intro a H
          exact wpStill_nil (H.strip 4 rfl rfl)
        case k =>
          clear H a; intro a H
          refine wpStill_nil ?_
          refine list_does H rfl (by first | exact does_or rfl rfl rfl | exact does_pick rfl rfl rfl) ?_; clear H a; intro a H
          refine hK3 _ _ ?_
          clear hK3 K3
          refine cond_ H rfl (fun hc1 => ?_) (fun hc1 => ?_)
          · try simp only [Bool.or_eq_true, Bool.and_eq_true, Bool.not_eq_true', Bool.or_eq_false_iff, Bool.and_eq_false_iff, Bool.not_eq_false', decide_eq_true_eq, decide_eq_false_iff_not, Int.not_lt, Int.not_le] at hc1
            replace H := H.keep [] rfl
            refine seq_list (fun K4 hK4 => ?_)
            refine list_call H rfl rfl Try.func18 rfl rfl (law_works _) ?_; clear H a
            rintro _ _ a ⟨rfl, S2⟩ H
            replace S := S.call S2; clear S2
            refine list_does H rfl (does_assign rfl) ?_; clear H a; intro a H
            refine hK4 _ _ ?_
            clear hK4 K4
            refine wp_ret ?_
            refine ret1 (fn := Try.f9) rfl H rfl ?_
            exact ⟨rfl, (S.sel [] rfl rfl)⟩
          · try simp only [Bool.or_eq_true, Bool.and_eq_true, Bool.not_eq_true', Bool.or_eq_false_iff, Bool.and_eq_false_iff, Bool.not_eq_false', decide_eq_true_eq, decide_eq_false_iff_not, Int.not_lt, Int.not_le] at hc1
            refine wp_skip ?_
            refine hK2 _ _ ?_
            have hca : checkE (⟨al, ap, ax⟩ : Chain) k = 0 := by omega
            have hcb : checkE (⟨bl, bp, bx⟩ : Chain) l = 0 := by omega
            replace H := H.keep [3, 4, 5] rfl
            refine seq_list (fun K5 hK5 => ?_)
            refine list_does H rfl (by first | exact does_field_pt fo_46_0 rfl | exact does_field fo_46_0 rfl) ?_; clear H a; intro a H
            refine list_does H rfl (by first | exact does_loadBox agg_23 sz_23 rfl S (i := 0) rfl rfl | exact does_loadBox agg_23 sz_23 rfl S (i := 1) rfl rfl | exact does_loadBox agg_23 sz_23 rfl S (i := 2) rfl rfl) ?_; clear H a; intro a H
            refine list_does H rfl (by first | exact does_field_pt fo_46_1 rfl | exact does_field fo_46_1 rfl) ?_; clear H a; intro a H
            refine list_does H rfl (does_load one_24 rfl (by first | exact boxM.rd S (i := 0) rfl rfl | exact boxM.rd S (i := 1) rfl rfl | exact boxM.rd S (i := 2) rfl rfl)) ?_; clear H a; intro a H
            refine list_does H rfl (by first | exact does_field_pt fo_46_0 rfl | exact does_field fo_46_0 rfl) ?_; clear H a; intro a H
            refine list_does H rfl (by first | exact does_loadBox agg_23 sz_23 rfl S (i := 0) rfl rfl | exact does_loadBox agg_23 sz_23 rfl S (i := 1) rfl rfl | exact does_loadBox agg_23 sz_23 rfl S (i := 2) rfl rfl) ?_; clear H a; intro a H
            refine list_does H rfl (by first | exact does_field_pt fo_46_1 rfl | exact does_field fo_46_1 rfl) ?_; clear H a; intro a H
            refine list_does H rfl (does_load one_24 rfl (by first | exact boxM.rd S (i := 0) rfl rfl | exact boxM.rd S (i := 1) rfl rfl | exact boxM.rd S (i := 2) rfl rfl)) ?_; clear H a; intro a H
            refine list_does H rfl (by first | exact does_field_pt fo_59_2 rfl | exact does_field fo_59_2 rfl) ?_; clear H a; intro a H
            refine list_does H rfl (does_load one_3 rfl (by first | exact boxM.rd S (i := 0) rfl rfl | exact boxM.rd S (i := 1) rfl rfl | exact boxM.rd S (i := 2) rfl rfl)) ?_; clear H a; intro a H
            refine list_call H rfl rfl Try.func34 rfl rfl (chain_Skew al ap ax k A cp bl bp bx l B cq every _ (hk.now S) hkn (hl.now S) hln) ?_; clear H a
            rintro _ _ a ⟨rfl, S2⟩ H
            replace S := S.call S2; clear S2
            refine list_does H rfl (does_move rfl) ?_; clear H a; intro a H
            refine list_does H rfl (does_extract rfl rfl) ?_; clear H a; intro a H
            refine list_does H rfl (does_extract rfl rfl) ?_; clear H a; intro a H
            refine list_does H rfl (does_extract rfl rfl) ?_; clear H a; intro a H
            refine list_does H rfl (does_assign rfl) ?_; clear H a; intro a H
            refine list_does H rfl (does_assign rfl) ?_; clear H a; intro a H
            refine list_does H rfl (does_assign rfl) ?_; clear H a; intro a H
            refine hK5 _ _ ?_
            clear hK5 K5
            replace H := H.keep [3, 4, 5, 7, 8, 9] rfl
            refine seq_list (fun K6 hK6 => ?_)
            refine list_does H rfl (by first | exact does_field_pt fo_46_0 rfl | exact does_field fo_46_0 rfl) ?_; clear H a; intro a H
            refine list_does H rfl (by first | exact does_loadBox agg_23 sz_23 rfl S (i := 0) rfl rfl | exact does_loadBox agg_23 sz_23 rfl S (i := 1) rfl rfl | exact does_loadBox agg_23 sz_23 rfl S (i := 2) rfl rfl) ?_; clear H a; intro a H
            refine list_does H rfl (by first | exact does_field_pt fo_46_1 rfl | exact does_field fo_46_1 rfl) ?_; clear H a; intro a H
            refine list_does H rfl (does_load one_24 rfl (by first | exact boxM.rd S (i := 0) rfl rfl | exact boxM.rd S (i := 1) rfl rfl | exact boxM.rd S (i := 2) rfl rfl)) ?_; clear H a; intro a H
            refine list_does H rfl (by first | exact does_field_pt fo_46_0 rfl | exact does_field fo_46_0 rfl) ?_; clear H a; intro a H
            refine list_does H rfl (by first | exact does_loadBox agg_23 sz_23 rfl S (i := 0) rfl rfl | exact does_loadBox agg_23 sz_23 rfl S (i := 1) rfl rfl | exact does_loadBox agg_23 sz_23 rfl S (i := 2) rfl rfl) ?_; clear H a; intro a H
            refine list_does H rfl (by first | exact does_field_pt fo_46_1 rfl | exact does_field fo_46_1 rfl) ?_; clear H a; intro a H
            refine list_does H rfl (does_load one_24 rfl (by first | exact boxM.rd S (i := 0) rfl rfl | exact boxM.rd S (i := 1) rfl rfl | exact boxM.rd S (i := 2) rfl rfl)) ?_; clear H a; intro a H
            refine list_does H rfl (by first | exact does_field_pt fo_59_2 rfl | exact does_field fo_59_2 rfl) ?_; clear H a; intro a H
            refine list_does H rfl (does_load one_3 rfl (by first | exact boxM.rd S (i := 0) rfl rfl | exact boxM.rd S (i := 1) rfl rfl | exact boxM.rd S (i := 2) rfl rfl)) ?_; clear H a; intro a H
            refine list_call H rfl rfl Try.func34 rfl rfl (chain_Skew bl bp bx l B cq al ap ax k A cp every _ (hl.now S) hln (hk.now S) hkn) ?_; clear H a
            rintro _ _ a ⟨rfl, S2⟩ H
            replace S := S.call S2; clear S2
            rw [skew_comm hca hcb] at H
            refine list_does H rfl (does_move rfl) ?_; clear H a; intro a H
            refine list_does H rfl (does_extract rfl rfl) ?_; clear H a; intro a H
            refine list_does H rfl (does_extract rfl rfl) ?_; clear H a; intro a H
            refine list_does H rfl (does_extract rfl rfl) ?_; clear H a; intro a H
            refine list_does H rfl (does_assign rfl) ?_; clear H a; intro a H
            refine list_does H rfl (does_assign rfl) ?_; clear H a; intro a H
            refine list_does H rfl (does_assign rfl) ?_; clear H a; intro a H
            refine hK6 _ _ ?_
            clear hK6 K6
            refine wp_seq_k (fun K7 hK7 => ?_)
            replace H := H.keep [3, 4, 5, 7, 8, 9, 10, 11, 12] rfl
            refine seq_still (fun K8 hK8 => ?_)
            refine still_does H rfl (does_move rfl) ?_; clear H a; intro a H
            refine still_does H rfl (does_move rfl) ?_; clear H a; intro a H
            refine still_does H rfl (does_neq_same rfl rfl rfl) ?_; clear H a; intro a H
            refine still_does H rfl (does_move rfl) ?_; clear H a; intro a H
            refine still_yes H rfl rfl ?_
            refine still_does H rfl (does_move rfl) ?_; clear H a; intro a H
            refine still_yes H rfl rfl ?_
            refine still_does H rfl (does_move rfl) ?_; clear H a; intro a H
            refine still_yes H rfl rfl ?_
            refine still_does H rfl (does_neq_same rfl rfl rfl) ?_; clear H a; intro a H
            refine still_does H rfl (by first | exact does_or rfl rfl rfl | exact does_pick rfl rfl rfl) ?_; clear H a; intro a H
            refine still_does H rfl (does_move rfl) ?_; clear H a; intro a H
            refine still_yes H rfl rfl ?_
            refine still_does H rfl (does_move rfl) ?_; clear H a; intro a H
            refine still_yes H rfl rfl ?_
            refine still_does H rfl (does_move rfl) ?_; clear H a; intro a H
            refine still_yes H rfl rfl ?_
            refine still_does H rfl (does_neq_same rfl rfl rfl) ?_; clear H a; intro a H
            refine still_does H rfl (by first | exact does_or rfl rfl rfl | exact does_pick rfl rfl rfl) ?_; clear H a; intro a H
            refine wpStill_nil (hK8 _ ?_)
            clear hK8 K8
            refine cond_ H rfl (fun hc2 => ?_) (fun hc2 => ?_)
            · skip
              cases hc2
            · skip
              refine wp_skip ?_
              refine hK7 _ _ ?_
              refine wp_seq_k (fun K9 hK9 => ?_)
              have hsy := skew_says (ev := every) hca hcb
              rcases hsy with he | ⟨hq1, hq2, hq3, M, N, hM, hN, he⟩
              · skip
                skip
                replace H := H.keep [3, 4, 5, 8, 9] rfl
                refine seq_still (fun K10 hK10 => ?_)
                refine still_does H rfl (does_move rfl) ?_; clear H a; intro a H
                refine still_does H rfl (does_neq rfl rfl) ?_; clear H a; intro a H
                refine still_does H rfl (does_move rfl) ?_; clear H a; intro a H
                apply still_guard (i := 2) (g := 91) (t := 98) (b := false) 7 H rfl rfl (by kernel_rfl) (by kernel_rfl) rfl rfl
                case h1 =>
                  intro hg3
                  refine still_yes' H rfl rfl (by assumption) ?_
                  refine still_does H rfl (by first | exact does_field_pt fo_46_0 rfl | exact does_field fo_46_0 rfl) ?_; intro a H
                  refine still_yes' H rfl rfl (by assumption) ?_
                  refine still_does H rfl (by first | exact does_field_pt fo_23_0 rfl | exact does_field fo_23_0 rfl) ?_; intro a H
                  refine still_yes' H rfl rfl (by assumption) ?_
                  refine still_does H rfl (does_load one_3 rfl (by first | exact boxM.rd S (i := 0) rfl rfl | exact boxM.rd S (i := 1) rfl rfl | exact boxM.rd S (i := 2) rfl rfl)) ?_; intro a H
                  refine still_yes' H rfl rfl (by assumption) ?_
                  refine still_does H rfl (by first | exact does_field_pt fo_46_0 rfl | exact does_field fo_46_0 rfl) ?_; intro a H
                  refine still_yes' H rfl rfl (by assumption) ?_
                  refine still_does H rfl (by first | exact does_field_pt fo_23_0 rfl | exact does_field fo_23_0 rfl) ?_; intro a H
                  refine still_yes' H rfl rfl (by assumption) ?_
                  refine still_does H rfl (does_load one_3 rfl (by first | exact boxM.rd S (i := 0) rfl rfl | exact boxM.rd S (i := 1) rfl rfl | exact boxM.rd S (i := 2) rfl rfl)) ?_; intro a H
                  refine still_yes' H rfl rfl (by assumption) ?_
                  refine still_does H rfl (does_neq rfl rfl) ?_; intro a H
                  exact wpStill_nil (H.strip 7 rfl rfl)
                case k =>
                  clear H a; intro a H
                  refine still_does H rfl (by first | exact does_or rfl rfl rfl | exact does_pick rfl rfl rfl) ?_; clear H a; intro a H
                  refine still_does H rfl (does_move rfl) ?_; clear H a; intro a H
                  apply still_guard (i := 11) (g := 100) (t := 103) (b := false) 3 H rfl rfl (by kernel_rfl) (by kernel_rfl) rfl rfl
                  case h1 =>
                    intro hg12
                    refine still_yes' H rfl rfl (by assumption) ?_
                    refine still_does H rfl (by first | exact does_field_pt fo_59_2 rfl | exact does_field fo_59_2 rfl) ?_; intro a H
                    refine still_yes' H rfl rfl (by assumption) ?_
                    refine still_does H rfl (does_load one_3 rfl (by first | exact boxM.rd S (i := 0) rfl rfl | exact boxM.rd S (i := 1) rfl rfl | exact boxM.rd S (i := 2) rfl rfl)) ?_; intro a H
                    refine still_yes' H rfl rfl (by assumption) ?_
                    refine still_does H rfl (does_lss rfl rfl) ?_; intro a H
                    exact wpStill_nil (H.strip 3 rfl rfl)
                  case k =>
                    clear H a; intro a H
                    refine still_does H rfl (by first | exact does_or rfl rfl rfl | exact does_pick rfl rfl rfl) ?_; clear H a; intro a H
                    refine wpStill_nil (hK10 _ ?_)
                    clear hK10 K10
                    refine cond_ H rfl (fun hc3 => ?_) (fun hc3 => ?_)
                    · try simp only [Bool.or_eq_true, Bool.and_eq_true, Bool.not_eq_true', Bool.or_eq_false_iff, Bool.and_eq_false_iff, Bool.not_eq_false', decide_eq_true_eq, decide_eq_false_iff_not, Int.not_lt, Int.not_le] at hc3
                      replace H := H.keep [9] rfl
                      refine seq_list (fun K11 hK11 => ?_)
                      refine list_does H rfl (does_move rfl) ?_; clear H a; intro a H
                      refine list_does H rfl (does_eql rfl rfl) ?_; clear H a; intro a H
                      refine list_does H rfl (does_move rfl) ?_; clear H a; intro a H
                      refine list_still 2 ?_
                      apply still_guard (i := 2) (g := 107) (t := 109) (b := false) 2 H rfl rfl (by kernel_rfl) (by kernel_rfl) rfl rfl
                      case h1 =>
                        intro hg3
                        refine still_yes' H rfl rfl (by assumption) ?_
                        refine still_does H rfl (does_move rfl) ?_; intro a H
                        refine still_yes' H rfl rfl (by assumption) ?_
                        refine still_does H rfl (does_eql rfl rfl) ?_; intro a H
                        exact wpStill_nil (H.strip 2 rfl rfl)
                      case k =>
                        clear H a; intro a H
                        refine wpStill_nil ?_
                        refine list_does H rfl (Does.to (does_or rfl rfl rfl) (show Value.bool _ = Value.bool true from congrArg Value.bool (by rcases he with h | h <;> rw [h] <;> rfl))) ?_; clear H a; intro a H
                        refine list_does H rfl (does_move rfl) ?_; clear H a; intro a H
                        refine list_yes H rfl rfl ?_
                        refine list_call H rfl rfl Try.func18 rfl rfl (law_works _) ?_; clear H a
                        rintro _ _ a ⟨rfl, S2⟩ H
                        replace S := S.call S2; clear S2
                        refine list_does H rfl (by first | exact does_and rfl rfl rfl | exact does_pick rfl rfl rfl) ?_; clear H a; intro a H
                        refine list_does H rfl (does_assign rfl) ?_; clear H a; intro a H
                        refine hK11 _ _ ?_
                        clear hK11 K11
                        refine wp_ret ?_
                        refine ret1 (fn := Try.f9) rfl H rfl ?_
                        exact ⟨rfl, (S.sel [] rfl rfl)⟩
                    · try simp only [Bool.or_eq_true, Bool.and_eq_true, Bool.not_eq_true', Bool.or_eq_false_iff, Bool.and_eq_false_iff, Bool.not_eq_false', decide_eq_true_eq, decide_eq_false_iff_not, Int.not_lt, Int.not_le] at hc3
                      exfalso; rcases he with h | h <;> rw [h] at hc3 <;> simp at hc3
              · skip
                obtain ⟨ev, rfl⟩ := Int.eq_ofNat_of_zero_le (show 0 ≤ every by omega)
                replace he : skewO (⟨al, ap, ax⟩ : Chain) k (⟨bl, bp, bx⟩ : Chain) l ((ev : Nat) : Int) = ((skTo M N ev (al.toNat / ev)).1, (skTo M N ev (al.toNat / ev)).2, 0) := he
                rw [he] at H; dsimp only at H
                have hC := (checkE_ok hca).1; unfold chainOk at hC; simp only [decide_eq_true_eq] at hC
                replace H := H.keep [3, 4, 5, 8, 9] rfl
                refine seq_still (fun K12 hK12 => ?_)
                refine still_does H rfl (does_move rfl) ?_; clear H a; intro a H
                refine still_does H rfl (does_neq rfl rfl) ?_; clear H a; intro a H
                refine still_does H rfl (does_move rfl) ?_; clear H a; intro a H
                apply still_guard (i := 2) (g := 91) (t := 98) (b := false) 7 H rfl rfl (by kernel_rfl) (by kernel_rfl) rfl rfl
                case h1 =>
                  intro hg3
                  refine still_yes' H rfl rfl (by assumption) ?_
                  refine still_does H rfl (by first | exact does_field_pt fo_46_0 rfl | exact does_field fo_46_0 rfl) ?_; intro a H
                  refine still_yes' H rfl rfl (by assumption) ?_
                  refine still_does H rfl (by first | exact does_field_pt fo_23_0 rfl | exact does_field fo_23_0 rfl) ?_; intro a H
                  refine still_yes' H rfl rfl (by assumption) ?_
                  refine still_does H rfl (does_load one_3 rfl (by first | exact boxM.rd S (i := 0) rfl rfl | exact boxM.rd S (i := 1) rfl rfl | exact boxM.rd S (i := 2) rfl rfl)) ?_; intro a H
                  refine still_yes' H rfl rfl (by assumption) ?_
                  refine still_does H rfl (by first | exact does_field_pt fo_46_0 rfl | exact does_field fo_46_0 rfl) ?_; intro a H
                  refine still_yes' H rfl rfl (by assumption) ?_
                  refine still_does H rfl (by first | exact does_field_pt fo_23_0 rfl | exact does_field fo_23_0 rfl) ?_; intro a H
                  refine still_yes' H rfl rfl (by assumption) ?_
                  refine still_does H rfl (does_load one_3 rfl (by first | exact boxM.rd S (i := 0) rfl rfl | exact boxM.rd S (i := 1) rfl rfl | exact boxM.rd S (i := 2) rfl rfl)) ?_; intro a H
                  refine still_yes' H rfl rfl (by assumption) ?_
                  refine still_does H rfl (does_neq rfl rfl) ?_; intro a H
                  exact wpStill_nil (H.strip 7 rfl rfl)
                case k =>
                  clear H a; intro a H
                  refine still_does H rfl (by first | exact does_or rfl rfl rfl | exact does_pick rfl rfl rfl) ?_; clear H a; intro a H
                  refine still_does H rfl (does_move rfl) ?_; clear H a; intro a H
                  apply still_guard (i := 11) (g := 100) (t := 103) (b := false) 3 H rfl rfl (by kernel_rfl) (by kernel_rfl) rfl rfl
                  case h1 =>
                    intro hg12
                    refine still_yes' H rfl rfl (by assumption) ?_
                    refine still_does H rfl (by first | exact does_field_pt fo_59_2 rfl | exact does_field fo_59_2 rfl) ?_; intro a H
                    refine still_yes' H rfl rfl (by assumption) ?_
                    refine still_does H rfl (does_load one_3 rfl (by first | exact boxM.rd S (i := 0) rfl rfl | exact boxM.rd S (i := 1) rfl rfl | exact boxM.rd S (i := 2) rfl rfl)) ?_; intro a H
                    refine still_yes' H rfl rfl (by assumption) ?_
                    refine still_does H rfl (does_lss rfl rfl) ?_; intro a H
                    exact wpStill_nil (H.strip 3 rfl rfl)
                  case k =>
                    clear H a; intro a H
                    refine still_does H rfl (by first | exact does_or rfl rfl rfl | exact does_pick rfl rfl rfl) ?_; clear H a; intro a H
                    refine wpStill_nil (hK12 _ ?_)
                    clear hK12 K12
                    refine cond_ H rfl (fun hc4 => ?_) (fun hc4 => ?_)
                    · try simp only [Bool.or_eq_true, Bool.and_eq_true, Bool.not_eq_true', Bool.or_eq_false_iff, Bool.and_eq_false_iff, Bool.not_eq_false', decide_eq_true_eq, decide_eq_false_iff_not, Int.not_lt, Int.not_le] at hc4
                      exfalso; simp at hc4; (try dsimp only at hq1 hq2 hq3); omega
                    · try simp only [Bool.or_eq_true, Bool.and_eq_true, Bool.not_eq_true', Bool.or_eq_false_iff, Bool.and_eq_false_iff, Bool.not_eq_false', decide_eq_true_eq, decide_eq_false_iff_not, Int.not_lt, Int.not_le] at hc4
                      refine wp_skip ?_
                      refine hK9 _ _ ?_
                      refine wp_seq_k (fun K13 hK13 => ?_)
                      replace H := H.keep [3, 4, 5, 8] rfl
                      refine seq_list (fun K14 hK14 => ?_)
                      refine list_does H rfl (by first | exact does_field_pt fo_46_0 rfl | exact does_field fo_46_0 rfl) ?_; clear H a; intro a H
                      refine list_does H rfl (by first | exact does_loadBox agg_23 sz_23 rfl S (i := 0) rfl rfl | exact does_loadBox agg_23 sz_23 rfl S (i := 1) rfl rfl | exact does_loadBox agg_23 sz_23 rfl S (i := 2) rfl rfl) ?_; clear H a; intro a H
                      refine list_does H rfl (by first | exact does_field_pt fo_46_1 rfl | exact does_field fo_46_1 rfl) ?_; clear H a; intro a H
                      refine list_does H rfl (does_load one_24 rfl (by first | exact boxM.rd S (i := 0) rfl rfl | exact boxM.rd S (i := 1) rfl rfl | exact boxM.rd S (i := 2) rfl rfl)) ?_; clear H a; intro a H
                      refine list_does H rfl (by first | exact does_field_pt fo_59_0 rfl | exact does_field fo_59_0 rfl) ?_; clear H a; intro a H
                      refine list_does H rfl (does_load one_29 rfl (by first | exact boxM.rd S (i := 0) rfl rfl | exact boxM.rd S (i := 1) rfl rfl | exact boxM.rd S (i := 2) rfl rfl)) ?_; clear H a; intro a H
                      refine list_call H rfl rfl Try.func32 rfl rfl (law_Possible al ap ax k A cp WA wa.length wac (fnL wa) _ (hk.now S) hkn (hwa.now S) hwan hca) ?_; clear H a
                      rintro _ _ a ⟨rfl, S2⟩ H
                      replace S := S.call S2; clear S2
                      refine list_does H rfl (does_not rfl) ?_; clear H a; intro a H
                      refine list_does H rfl (does_move rfl) ?_; clear H a; intro a H
                      apply list_guard (i := 8) (g := 122) (t := 130) (b := false) 8 H S rfl rfl (by kernel_rfl) (by kernel_rfl) rfl rfl
                      case h1 =>
                        intro hg9
                        refine list_yes' H rfl rfl (by assumption) ?_
                        refine list_does H rfl (by first | exact does_field_pt fo_46_0 rfl | exact does_field fo_46_0 rfl) ?_; intro a H
                        refine list_yes' H rfl rfl (by assumption) ?_
                        refine list_does H rfl (by first | exact does_loadBox agg_23 sz_23 rfl S (i := 0) rfl rfl | exact does_loadBox agg_23 sz_23 rfl S (i := 1) rfl rfl | exact does_loadBox agg_23 sz_23 rfl S (i := 2) rfl rfl) ?_; intro a H
                        refine list_yes' H rfl rfl (by assumption) ?_
                        refine list_does H rfl (by first | exact does_field_pt fo_46_1 rfl | exact does_field fo_46_1 rfl) ?_; intro a H
                        refine list_yes' H rfl rfl (by assumption) ?_
                        refine list_does H rfl (does_load one_24 rfl (by first | exact boxM.rd S (i := 0) rfl rfl | exact boxM.rd S (i := 1) rfl rfl | exact boxM.rd S (i := 2) rfl rfl)) ?_; intro a H
                        refine list_yes' H rfl rfl (by assumption) ?_
                        refine list_does H rfl (by first | exact does_field_pt fo_59_1 rfl | exact does_field fo_59_1 rfl) ?_; intro a H
                        refine list_yes' H rfl rfl (by assumption) ?_
                        refine list_does H rfl (does_load one_29 rfl (by first | exact boxM.rd S (i := 0) rfl rfl | exact boxM.rd S (i := 1) rfl rfl | exact boxM.rd S (i := 2) rfl rfl)) ?_; intro a H
                        refine list_yes' H rfl rfl (by assumption) ?_
                        refine list_call H rfl rfl Try.func32 rfl rfl (law_Possible bl bp bx l B cq WB wb.length wbc (fnL wb) _ (hl.now S) hln (hwb.now S) hwbn hcb) ?_; clear H a
                        rintro _ _ a ⟨rfl, S2⟩ H
                        replace S := S.call S2; clear S2
                        refine list_yes' H rfl rfl (by assumption) ?_
                        refine list_does H rfl (does_not rfl) ?_; intro a H
                        exact wpList_nil ⟨H.strip 8 rfl rfl, (S.sel [0, 1, 2] rfl rfl)⟩
                      case k =>
                        clear H a S; intro a _ H S
                        refine list_does H rfl (by first | exact does_or rfl rfl rfl | exact does_pick rfl rfl rfl) ?_; clear H a; intro a H
                        refine hK14 _ _ ?_
                        clear hK14 K14
                        refine cond_ H rfl (fun hc5 => ?_) (fun hc5 => ?_)
                        · try simp only [Bool.or_eq_true, Bool.and_eq_true, Bool.not_eq_true', Bool.or_eq_false_iff, Bool.and_eq_false_iff, Bool.not_eq_false', decide_eq_true_eq, decide_eq_false_iff_not, Int.not_lt, Int.not_le] at hc5
                          replace H := H.keep [] rfl
                          refine seq_list (fun K15 hK15 => ?_)
                          refine list_call H rfl rfl Try.func18 rfl rfl (law_works _) ?_; clear H a
                          rintro _ _ a ⟨rfl, S2⟩ H
                          replace S := S.call S2; clear S2
                          refine list_does H rfl (does_assign rfl) ?_; clear H a; intro a H
                          refine hK15 _ _ ?_
                          clear hK15 K15
                          refine wp_ret ?_
                          refine ret1 (fn := Try.f9) rfl H rfl ?_
                          exact ⟨rfl, (S.sel [] rfl rfl)⟩
                        · try simp only [Bool.or_eq_true, Bool.and_eq_true, Bool.not_eq_true', Bool.or_eq_false_iff, Bool.and_eq_false_iff, Bool.not_eq_false', decide_eq_true_eq, decide_eq_false_iff_not, Int.not_lt, Int.not_le] at hc5
                          refine wp_skip ?_
                          refine hK13 _ _ ?_
                          refine wp_seq_k (fun K16 hK16 => ?_)
                          replace H := H.keep [3, 5, 8] rfl
                          refine seq_still (fun K17 hK17 => ?_)
                          refine still_does H rfl (by first | exact does_field_pt fo_59_2 rfl | exact does_field fo_59_2 rfl) ?_; clear H a; intro a H
                          refine still_does H rfl (does_load one_3 rfl (by first | exact boxM.rd S (i := 0) rfl rfl | exact boxM.rd S (i := 1) rfl rfl | exact boxM.rd S (i := 2) rfl rfl)) ?_; clear H a; intro a H
                          refine still_does H rfl (does_assign rfl) ?_; clear H a; intro a H
                          refine wpStill_nil (hK17 _ ?_)
                          clear hK17 K17
                          refine wp_block ?_
                          obtain ⟨hpa, hpa2⟩ := posB_iff.1 hc5.1
                          obtain ⟨hpb, hpb2⟩ := posB_iff.1 hc5.2
                          (try dsimp only at hpa hpb hq1 hq2 hq3)
                          obtain ⟨M9, hM9, hMa⟩ := pos_best hca hpa2
                          obtain ⟨N9, hN9, hNb⟩ := pos_best hcb hpb2
                          rw [hM] at hM9; cases hM9; rw [hN] at hN9; cases hN9
                          have hC2 := (checkE_ok hcb).1; unfold chainOk at hC2; simp only [decide_eq_true_eq] at hC2
                          have hfa : ∀ k, k < wa.length → 0 ≤ (fnL wa) k ∧ (fnL wa) k ≤ 100000 := fun k hk => by have := hpa2.links k (by (try dsimp only); omega); (try dsimp only at this); omega
                          have hfb : ∀ k, k < wb.length → 0 ≤ (fnL wb) k ∧ (fnL wb) k ≤ 100000 := fun k hk => by have := hpb2.links k (by (try dsimp only); omega); (try dsimp only at this); omega
                          refine loop_st (X := Nat × Nat) (R0 := _) [3, 5, 8] H rfl (fun ⟨q, e⟩ => [(13, .int .i64 (e : Int))]) (fun ⟨q, e⟩ => []) (fun g ⟨q, e⟩ => e = (q + 1) * ev ∧ q * ev ≤ al.toNat ∧ g + e = al.toNat + ev) (al.toNat) (0, ev) ?_ (S.sel [0, 1, 2] rfl rfl) (H.keep [13, 3, 5, 8] rfl) ?_
                          · exact ⟨by omega, by omega, by omega⟩
                          · intro g1 x1 a w1 hp S H K18 hK18
                            obtain ⟨q, e⟩ := x1
                            dsimp only at hp S H
                            refine wp_seq_k (fun K19 hK19 => ?_)
                            replace H := H.keep [3, 5, 8, 13] rfl
                            refine seq_still (fun K20 hK20 => ?_)
                            refine still_does H rfl (does_move rfl) ?_; clear H a; intro a H
                            refine still_does H rfl (by first | exact does_field_pt fo_46_0 rfl | exact does_field fo_46_0 rfl) ?_; clear H a; intro a H
                            refine still_does H rfl (by first | exact does_field_pt fo_23_0 rfl | exact does_field fo_23_0 rfl) ?_; clear H a; intro a H
                            refine still_does H rfl (does_load one_3 rfl (by first | exact boxM.rd S (i := 0) rfl rfl | exact boxM.rd S (i := 1) rfl rfl | exact boxM.rd S (i := 2) rfl rfl)) ?_; clear H a; intro a H
                            refine still_does H rfl (does_leq rfl rfl) ?_; clear H a; intro a H
                            refine wpStill_nil (hK20 _ ?_)
                            clear hK20 K20
                            refine cond_ H rfl (fun hc6 => ?_) (fun hc6 => ?_)
                            · try simp only [Bool.or_eq_true, Bool.and_eq_true, Bool.not_eq_true', Bool.or_eq_false_iff, Bool.and_eq_false_iff, Bool.not_eq_false', decide_eq_true_eq, decide_eq_false_iff_not, Int.not_lt, Int.not_le] at hc6
                              refine wp_skip ?_
                              refine hK19 _ _ ?_
                              refine wp_seq_k (fun K21 hK21 => ?_)
                              refine wp_block ?_
                              have hp1 := hp
                              have hsa := sumR_bd hfa 0 e (by omega); have hsb := sumR_bd hfb 0 e (by omega)
                              have SR := (S.sel [0, 1, 2] rfl rfl)
                              refine meet_sr (X := Int) [3, 5, 8, 13] H rfl (fun d => [(14, .int .i64 d)]) (fun d => []) (fun d => d = sumR (fnL wa) 0 e - sumR (fnL wb) 0 e) SR (fun K22 hK22 => ?_) ?_
                              · skip
                                replace H := H.keep [3, 5, 8, 13] rfl
                                replace S := S.drew
                                refine one_wt 999999 (.q 0 (.q 1 (.q 2 (.q 4 (.q 5 (.q 6 (.e 3 (.e 7 (.q 8 (.q 9 .nil)))))))))) (by kernel_rfl) (by kernel_rfl) (S.sel [0, 1, 2] rfl rfl) ?_
                                refine wt_does H rfl rfl (fun _ S => by first | exact does_field_pt fo_59_0 rfl | exact does_field fo_59_0 rfl) ?_; clear H a; intro a H
                                refine wt_does H rfl rfl (fun _ S => does_load one_29 rfl (by first | exact boxM.rd S (i := 0) rfl rfl | exact boxM.rd S (i := 1) rfl rfl | exact boxM.rd S (i := 2) rfl rfl)) ?_; clear H a; intro a H
                                refine wt_does H rfl rfl (fun _ S => does_move rfl) ?_; clear H a; intro a H
                                refine wt_does H rfl rfl (fun _ S => by first | exact does_field_pt fo_59_1 rfl | exact does_field fo_59_1 rfl) ?_; clear H a; intro a H
                                refine wt_does H rfl rfl (fun _ S => does_load one_29 rfl (by first | exact boxM.rd S (i := 0) rfl rfl | exact boxM.rd S (i := 1) rfl rfl | exact boxM.rd S (i := 2) rfl rfl)) ?_; clear H a; intro a H
                                refine wt_does H rfl rfl (fun _ S => does_move rfl) ?_; clear H a; intro a H
                                refine wt_eff rfl ?_
                                refine list_call H rfl rfl Try.func33 rfl rfl (law_sum0 WA wa.length wac (fnL wa) e _ (hwa.now S) (by omega) (by omega) hfa) ?_; clear H a
                                rintro _ _ a ⟨rfl, S2⟩ H
                                replace S := S.call S2; clear S2
                                refine wpList_nil (And.intro (Or.inr (S.sel [0, 1, 2] rfl rfl)) ?_)
                                refine wt_eff rfl ?_
                                refine list_call H rfl rfl Try.func33 rfl rfl (law_sum0 WB wb.length wbc (fnL wb) e _ (hwb.now S) (by omega) (by omega) hfb) ?_; clear H a
                                rintro _ _ a ⟨rfl, S2⟩ H
                                replace S := S.call S2; clear S2
                                refine wpList_nil (And.intro (Or.inr (S.sel [0, 1, 2] rfl rfl)) ?_)
                                refine wt_does H rfl rfl (fun _ S => does_sub rfl rfl (by unfold i64ok; omega)) ?_; clear H a; intro a H
                                refine wt_does H rfl rfl (fun _ S => does_assign rfl) ?_; clear H a; intro a H
                                refine wt_nil ?_
                                exact hK22 _ a _ (rfl) (S.sel [0, 1, 2] rfl rfl) (H.keep [14, 3, 5, 8, 13] rfl)
                              · intro xm a wm hp S H
                                obtain ⟨d, rfl⟩ : ∃ y, y = xm := ⟨_, rfl⟩
                                clear SR
                                have hd := hp; replace hp := hp1
                                have ha1 := hMa 0 e (by unfold Chain.n; dsimp only; omega) (by unfold Chain.n; dsimp only; omega); have ha2 := hMa e 0 (by unfold Chain.n; dsimp only; omega) (by unfold Chain.n; dsimp only; omega)
                                have hb1 := hNb 0 e (by unfold Chain.n; dsimp only; omega) (by unfold Chain.n; dsimp only; omega); have hb2 := hNb e 0 (by unfold Chain.n; dsimp only; omega) (by unfold Chain.n; dsimp only; omega)
                                have hmx := skTo_max (M := M) (N := N) (ev := ev) (al.toNat / ev) q (show q + 1 ≤ al.toNat / ev from (Nat.le_div_iff_mul_le (by omega)).2 (by rw [← hp.1]; omega))
                                rw [← hp.1] at hmx; unfold skD at hmx
                                have hz1 : posP (fnL wa) 0 = 0 := rfl
                                have hz2 : posP (fnL wb) 0 = 0 := rfl
                                have hz3 : sumR (fnL wa) 0 e = posP (fnL wa) e := rfl
                                have hz4 : sumR (fnL wb) 0 e = posP (fnL wb) e := rfl
                                replace H := H.keep [3, 5, 8, 13, 14] rfl
                                refine seq_still (fun K24 hK24 => ?_)
                                refine still_does H rfl (does_move rfl) ?_; clear H a; intro a H
                                refine still_does H rfl (does_move rfl) ?_; clear H a; intro a H
                                refine still_does H rfl (does_neg rfl (by unfold i64ok; omega)) ?_; clear H a; intro a H
                                refine still_does H rfl (does_max rfl rfl) ?_; clear H a; intro a H
                                refine still_does H rfl (does_move rfl) ?_; clear H a; intro a H
                                refine still_does H rfl (does_gtr rfl rfl) ?_; clear H a; intro a H
                                refine wpStill_nil (hK24 _ ?_)
                                clear hK24 K24
                                refine cond_ H rfl (fun hc7 => ?_) (fun hc7 => ?_)
                                · try simp only [Bool.or_eq_true, Bool.and_eq_true, Bool.not_eq_true', Bool.or_eq_false_iff, Bool.and_eq_false_iff, Bool.not_eq_false', decide_eq_true_eq, decide_eq_false_iff_not, Int.not_lt, Int.not_le] at hc7
                                  exfalso; omega
                                · try simp only [Bool.or_eq_true, Bool.and_eq_true, Bool.not_eq_true', Bool.or_eq_false_iff, Bool.and_eq_false_iff, Bool.not_eq_false', decide_eq_true_eq, decide_eq_false_iff_not, Int.not_lt, Int.not_le] at hc7
                                  refine wp_skip ?_
                                  refine hK21 _ _ ?_
                                  replace H := H.keep [3, 5, 8, 13] rfl
                                  refine one_still ?_
                                  refine still_does H rfl (does_move rfl) ?_; clear H a; intro a H
                                  refine still_does H rfl (by first | exact does_field_pt fo_59_2 rfl | exact does_field fo_59_2 rfl) ?_; clear H a; intro a H
                                  refine still_does H rfl (does_load one_3 rfl (by first | exact boxM.rd S (i := 0) rfl rfl | exact boxM.rd S (i := 1) rfl rfl | exact boxM.rd S (i := 2) rfl rfl)) ?_; clear H a; intro a H
                                  refine still_does H rfl (does_add rfl rfl (by unfold i64ok; omega)) ?_; clear H a; intro a H
                                  refine still_does H rfl (does_assign rfl) ?_; clear H a; intro a H
                                  refine wpStill_nil ?_
                                  exact hK18 (g1 - ev) (q + 1, e + ev) a _ (by omega) (⟨by rw [hp.1]; exact (Nat.succ_mul _ _).symm, by rw [← hp.1]; omega, by omega⟩) (S.sel [0, 1, 2] rfl rfl) (H.keep [13, 3, 5, 8] rfl)
                            · try simp only [Bool.or_eq_true, Bool.and_eq_true, Bool.not_eq_true', Bool.or_eq_false_iff, Bool.and_eq_false_iff, Bool.not_eq_false', decide_eq_true_eq, decide_eq_false_iff_not, Int.not_lt, Int.not_le] at hc6
                              refine wp_exit ?_
                              refine hK16 _ _ ?_
                              replace H := H.keep [] rfl
                              refine seq_list (fun K26 hK26 => ?_)
                              refine list_call H rfl rfl Try.func18 rfl rfl (law_works _) ?_; clear H a
                              rintro _ _ a ⟨rfl, S2⟩ H
                              replace S := S.call S2; clear S2
                              refine list_does H rfl (does_assign rfl) ?_; clear H a; intro a H
                              refine hK26 _ _ ?_
                              clear hK26 K26
                              refine wp_ret ?_
                              refine ret1 (fn := Try.f9) rfl H rfl ?_
                              exact ⟨rfl, (S.sel [] rfl rfl)⟩

end Go.Proofs.Ytlejjfhgfajoiaa
