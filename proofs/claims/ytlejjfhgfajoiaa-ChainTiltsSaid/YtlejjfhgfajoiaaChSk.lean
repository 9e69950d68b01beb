/- ChSk. Printed by gen.py. -/
import Derived.Test.YtlejjfhgfajoiaaChV
namespace Go.Proofs.Ytlejjfhgfajoiaa
open Go.RowKit
set_option linter.unusedVariables false
set_option linter.unusedSimpArgs false


def skD (M N : IM) (e : Nat) : Int := max (M 0 e - -(N e 0)) (N 0 e - -(M e 0))
def skTo (M N : IM) (ev : Nat) : Nat → Int × Int
  | 0 => (0, 0)
  | k + 1 => if k = 0 ∨ (skTo M N ev k).2 < skD M N ((k + 1) * ev) then ((((k + 1) * ev : Nat) : Int), skD M N ((k + 1) * ev)) else skTo M N ev k
def skewO (a : Chain) (k : List Gauge) (b : Chain) (l : List Gauge) (every : Int) : Int × Int × Int :=
  if checkE a k ≠ 0 then (0, 0, checkE a k) else if checkE b l ≠ 0 then (0, 0, checkE b l) else
  match wholeO a k (decide (a.links = b.links) && (decide (1 ≤ every) && decide (every ≤ a.links))) with
  | .error e => (0, 0, e)
  | .ok M => match wholeO b l (decide (a.links = b.links) && (decide (1 ≤ every) && decide (every ≤ a.links))) with
    | .error e => (0, 0, e)
    | .ok N => ((skTo M N every.toNat (a.links.toNat / every.toNat)).1, (skTo M N every.toNat (a.links.toNat / every.toNat)).2, 0)
theorem skTo_pos {M N : IM} {ev : Nat} (h : 0 < ev) : ∀ k, 0 < k → 1 ≤ (skTo M N ev k).1 := by
  intro k
  induction k with
  | zero => intro h; omega
  | succ k ih =>
    intro _
    rw [skTo]
    have h1 : ev ≤ (k + 1) * ev := Nat.le_mul_of_pos_left _ (by omega)
    split
    · dsimp only; omega
    · rename_i h2
      exact ih (by omega)
theorem skD_pos {n : Nat} {M N : IM} {e : Nat} (h : Good n M) (h' : Good n N) (he : e < n) : 0 ≤ skD M N e := by
  have h1 := h.tri 0 e 0 (by omega) he (by omega)
  have h2 := h'.tri 0 e 0 (by omega) he (by omega)
  have h3 := h.diag 0 (by omega)
  have h4 := h'.diag 0 (by omega)
  unfold skD
  omega
/-- As the document counts: none yet is minus one. -/
def skR (M N : IM) (ev k : Nat) : Int × Int := if k = 0 then (0, -1) else skTo M N ev k


set_option maxRecDepth 100000 in
set_option maxHeartbeats 1000000 in
theorem chain_Skew (al ap ax : Int) (k : List Gauge) (A : Option Addr) (cp : Nat) (bl bp bx : Int) (l : List Gauge) (B : Option Addr) (cq : Nat) (every : Int) (w : World) (hk : InS w noF 4 A k.length (gcell k)) (hkn : k.length ≤ 9223372036854775807) (hl : InS w noF 4 B l.length (gcell l)) (hln : l.length ≤ 9223372036854775807) :
    Calls Try.prog 34 [.agg [.int .i64 al, .int .i64 ap, .int .i64 ax].toArray, .slice A k.length cp, .agg [.int .i64 bl, .int .i64 bp, .int .i64 bx].toArray, .slice B l.length cq, .int .i64 every].toArray w (Ret (fun v w' => v = .tuple #[.int .i64 (skewO (⟨al, ap, ax⟩ : Chain) k (⟨bl, bp, bx⟩ : Chain) l every).1, .int .i64 (skewO (⟨al, ap, ax⟩ : Chain) k (⟨bl, bp, bx⟩ : Chain) l every).2.1, .int .i64 (skewO (⟨al, ap, ax⟩ : Chain) k (⟨bl, bp, bx⟩ : Chain) l every).2.2] ∧ St w noF [] w')) := by
  refine enter Try.func34 rfl Try.ntmps34 rfl (fun a H => ?_)
  have S := St.start w
  refine seq_list (fun K1 hK1 => ?_)
  refine list_box H rfl S rfl rfl ?_; clear H a S; intro b5 _ a hb5 hbw5 S H
  refine list_box H rfl S rfl rfl ?_; clear H a S; intro b7 _ a hb7 hbw7 S H
  refine list_does H rfl (does_assign rfl) ?_; clear H a; intro a H
  refine list_does H rfl (does_assign rfl) ?_; clear H a; intro a H
  refine list_does H rfl (does_assign rfl) ?_; clear H a; intro a H
  refine hK1 _ _ ?_
  clear hK1 K1
  refine wp_seq_k (fun K2 hK2 => ?_)
  replace H := H.keep [1, 3, 4, 5, 7, 10, 11] rfl
  refine seq_list (fun K3 hK3 => ?_)
  refine list_does H rfl (by first | exact does_loadBox agg_23 sz_23 rfl S (i := 0) rfl rfl | exact does_loadBox agg_23 sz_23 rfl S (i := 1) rfl rfl) ?_; clear H a; intro a H
  refine list_does H rfl (does_move rfl) ?_; clear H a; intro a H
  refine list_call H rfl rfl Try.func23 rfl rfl (chain_Check (⟨al, ap, ax⟩ : Chain) k A cp _ (hk.now S) hkn) ?_; clear H a
  rintro _ _ a ⟨rfl, S2⟩ H
  replace S := S.call S2; clear S2
  refine list_does H rfl (does_assign rfl) ?_; clear H a; intro a H
  refine hK3 _ _ ?_
  clear hK3 K3
  replace H := H.keep [1, 3, 4, 5, 7, 10, 11, 12] rfl
  refine seq_still (fun K4 hK4 => ?_)
  refine still_does H rfl (does_move rfl) ?_; clear H a; intro a H
  refine still_does H rfl (does_neq rfl rfl) ?_; clear H a; intro a H
  refine wpStill_nil (hK4 _ ?_)
  clear hK4 K4
  refine cond_ H rfl (fun hc1 => ?_) (fun hc1 => ?_)
  · try simp only [Bool.or_eq_true, Bool.and_eq_true, Bool.not_eq_true', Bool.or_eq_false_iff, Bool.and_eq_false_iff, Bool.not_eq_false', decide_eq_true_eq, decide_eq_false_iff_not, Int.not_lt, Int.not_le] at hc1
    replace H := H.keep [12] rfl
    refine seq_still (fun K5 hK5 => ?_)
    refine still_does H rfl (does_move rfl) ?_; clear H a; intro a H
    refine still_does H rfl (does_assign rfl) ?_; clear H a; intro a H
    refine still_does H rfl (does_assign rfl) ?_; clear H a; intro a H
    refine still_does H rfl (does_assign rfl) ?_; clear H a; intro a H
    refine wpStill_nil (hK5 _ ?_)
    clear hK5 K5
    refine wp_ret ?_
    refine ret3 (fn := Try.f34) rfl H rfl rfl rfl ?_
    exact ⟨by unfold skewO; rw [if_pos (by omega)], (S.sel [] rfl rfl)⟩
  · try simp only [Bool.or_eq_true, Bool.and_eq_true, Bool.not_eq_true', Bool.or_eq_false_iff, Bool.and_eq_false_iff, Bool.not_eq_false', decide_eq_true_eq, decide_eq_false_iff_not, Int.not_lt, Int.not_le] at hc1
    refine wp_skip ?_
    refine hK2 _ _ ?_
    replace H := H.keep [1, 3, 4, 5, 7, 10, 11] rfl
    refine seq_still (fun K6 hK6 => ?_)
    refine still_does H rfl (by first | exact does_field_pt fo_23_0 rfl | exact does_field fo_23_0 rfl) ?_; clear H a; intro a H
    refine still_does H rfl (does_load one_3 rfl (by first | exact boxM.rd S (i := 0) rfl rfl | exact boxM.rd S (i := 1) rfl rfl)) ?_; clear H a; intro a H
    refine still_does H rfl (by first | exact does_field_pt fo_23_0 rfl | exact does_field fo_23_0 rfl) ?_; clear H a; intro a H
    refine still_does H rfl (does_load one_3 rfl (by first | exact boxM.rd S (i := 0) rfl rfl | exact boxM.rd S (i := 1) rfl rfl)) ?_; clear H a; intro a H
    refine still_does H rfl (does_eql rfl rfl) ?_; clear H a; intro a H
    refine still_does H rfl (does_move rfl) ?_; clear H a; intro a H
    apply still_guard (i := 5) (g := 31) (t := 35) (b := true) 4 H rfl rfl (by kernel_rfl) (by kernel_rfl) rfl rfl
    case h1 =>
      intro hg6
      refine still_yes' H rfl rfl (by assumption) ?_
      refine still_does H rfl (does_move rfl) ?_; intro a H
      refine still_yes' H rfl rfl (by assumption) ?_
      refine still_does H rfl (by first | exact does_field_pt fo_23_0 rfl | exact does_field fo_23_0 rfl) ?_; intro a H
      refine still_yes' H rfl rfl (by assumption) ?_
      refine still_does H rfl (does_load one_3 rfl (by first | exact boxM.rd S (i := 0) rfl rfl | exact boxM.rd S (i := 1) rfl rfl)) ?_; intro a H
      refine still_yes' H rfl rfl (by assumption) ?_
      refine still_call H rfl rfl Try.func63 rfl rfl (chain_within _ _ _ _) ?_; intro a H
      exact wpStill_nil (H.strip 4 rfl rfl)
    case k =>
      clear H a; intro a H
      refine still_does H rfl (by first | exact does_and rfl rfl rfl | exact does_pick rfl rfl rfl) ?_; clear H a; intro a H
      refine still_does H rfl (does_assign rfl) ?_; clear H a; intro a H
      refine wpStill_nil (hK6 _ ?_)
      clear hK6 K6
      refine wp_seq_k (fun K7 hK7 => ?_)
      replace H := H.keep [1, 3, 4, 5, 7, 10, 11, 13] rfl
      refine seq_list (fun K8 hK8 => ?_)
      refine list_does H rfl (by first | exact does_loadBox agg_23 sz_23 rfl S (i := 0) rfl rfl | exact does_loadBox agg_23 sz_23 rfl S (i := 1) rfl rfl) ?_; clear H a; intro a H
      refine list_does H rfl (does_move rfl) ?_; clear H a; intro a H
      refine list_call H rfl rfl Try.func23 rfl rfl (chain_Check (⟨bl, bp, bx⟩ : Chain) l B cq _ (hl.now S) hln) ?_; clear H a
      rintro _ _ a ⟨rfl, S2⟩ H
      replace S := S.call S2; clear S2
      refine list_does H rfl (does_assign rfl) ?_; clear H a; intro a H
      refine hK8 _ _ ?_
      clear hK8 K8
      replace H := H.keep [1, 3, 4, 5, 7, 10, 11, 12, 13] rfl
      refine seq_still (fun K9 hK9 => ?_)
      refine still_does H rfl (does_move rfl) ?_; clear H a; intro a H
      refine still_does H rfl (does_neq rfl rfl) ?_; clear H a; intro a H
      refine wpStill_nil (hK9 _ ?_)
      clear hK9 K9
      refine cond_ H rfl (fun hc2 => ?_) (fun hc2 => ?_)
      · try simp only [Bool.or_eq_true, Bool.and_eq_true, Bool.not_eq_true', Bool.or_eq_false_iff, Bool.and_eq_false_iff, Bool.not_eq_false', decide_eq_true_eq, decide_eq_false_iff_not, Int.not_lt, Int.not_le] at hc2
        replace H := H.keep [12] rfl
        refine seq_still (fun K10 hK10 => ?_)
        refine still_does H rfl (does_move rfl) ?_; clear H a; intro a H
        refine still_does H rfl (does_assign rfl) ?_; clear H a; intro a H
        refine still_does H rfl (does_assign rfl) ?_; clear H a; intro a H
        refine still_does H rfl (does_assign rfl) ?_; clear H a; intro a H
        refine wpStill_nil (hK10 _ ?_)
        clear hK10 K10
        refine wp_ret ?_
        refine ret3 (fn := Try.f34) rfl H rfl rfl rfl ?_
        exact ⟨by unfold skewO; rw [if_neg (by omega), if_pos (by omega)], (S.sel [] rfl rfl)⟩
      · try simp only [Bool.or_eq_true, Bool.and_eq_true, Bool.not_eq_true', Bool.or_eq_false_iff, Bool.and_eq_false_iff, Bool.not_eq_false', decide_eq_true_eq, decide_eq_false_iff_not, Int.not_lt, Int.not_le] at hc2
        refine wp_skip ?_
        refine hK7 _ _ ?_
        rcases hW : wholeO (⟨al, ap, ax⟩ : Chain) k (decide (al = bl) && (decide (1 ≤ every) && decide (every ≤ al))) with e | M
        · skip
          have he := wholeO_err hW
          replace H := H.keep [1, 3, 4, 5, 7, 10, 11, 13] rfl
          refine seq_list (fun K11 hK11 => ?_)
          refine list_does H rfl (by first | exact does_loadBox agg_23 sz_23 rfl S (i := 0) rfl rfl | exact does_loadBox agg_23 sz_23 rfl S (i := 1) rfl rfl) ?_; clear H a; intro a H
          refine list_does H rfl (does_move rfl) ?_; clear H a; intro a H
          refine list_does H rfl (does_move rfl) ?_; clear H a; intro a H
          refine list_call H rfl rfl Try.func60 rfl rfl (ret_imp (chain_whole al ap ax k A cp (decide (al = bl) && (decide (1 ≤ every) && decide (every ≤ al))) _ (hk.now S) hkn) (fun _ _ => whole_err hW)) ?_; clear H a
          rintro _ _ a ⟨rfl, S2⟩ H
          replace S := S.call S2; clear S2
          refine list_does H rfl (does_move rfl) ?_; clear H a; intro a H
          refine list_does H rfl (does_extract rfl rfl) ?_; clear H a; intro a H
          refine list_does H rfl (does_extract rfl rfl) ?_; clear H a; intro a H
          refine list_does H rfl (does_assign rfl) ?_; clear H a; intro a H
          refine list_does H rfl (does_assign rfl) ?_; clear H a; intro a H
          refine hK11 _ _ ?_
          clear hK11 K11
          refine wp_seq_k (fun K12 hK12 => ?_)
          replace H := H.keep [3, 4, 5, 7, 10, 11, 12, 13, 14] rfl
          refine seq_still (fun K13 hK13 => ?_)
          refine still_does H rfl (does_move rfl) ?_; clear H a; intro a H
          refine still_does H rfl (does_neq rfl rfl) ?_; clear H a; intro a H
          refine wpStill_nil (hK13 _ ?_)
          clear hK13 K13
          refine cond_ H rfl (fun hc3 => ?_) (fun hc3 => ?_)
          · try simp only [Bool.or_eq_true, Bool.and_eq_true, Bool.not_eq_true', Bool.or_eq_false_iff, Bool.and_eq_false_iff, Bool.not_eq_false', decide_eq_true_eq, decide_eq_false_iff_not, Int.not_lt, Int.not_le] at hc3
            replace H := H.keep [12] rfl
            refine seq_still (fun K14 hK14 => ?_)
            refine still_does H rfl (does_move rfl) ?_; clear H a; intro a H
            refine still_does H rfl (does_assign rfl) ?_; clear H a; intro a H
            refine still_does H rfl (does_assign rfl) ?_; clear H a; intro a H
            refine still_does H rfl (does_assign rfl) ?_; clear H a; intro a H
            refine wpStill_nil (hK14 _ ?_)
            clear hK14 K14
            refine wp_ret ?_
            refine ret3 (fn := Try.f34) rfl H rfl rfl rfl ?_
            exact ⟨by unfold skewO; rw [if_neg (by omega), if_neg (by omega)]; (try dsimp only); rw [hW]; rfl, (S.sel [] rfl rfl)⟩
          · try simp only [Bool.or_eq_true, Bool.and_eq_true, Bool.not_eq_true', Bool.or_eq_false_iff, Bool.and_eq_false_iff, Bool.not_eq_false', decide_eq_true_eq, decide_eq_false_iff_not, Int.not_lt, Int.not_le] at hc3
            all_goals (exfalso; omega)
        · skip
          have hG := wholeO_good hW; have hC := hG.2; unfold chainOk at hC; simp only [decide_eq_true_eq] at hC
          obtain ⟨m, rfl⟩ := Int.eq_ofNat_of_zero_le (show 0 ≤ al by omega)
          have hW1 := wholeO_ok hW; have hAB := hW1.2.1; simp only [Bool.and_eq_true, decide_eq_true_eq] at hAB; obtain ⟨ev, rfl⟩ := Int.eq_ofNat_of_zero_le (show 0 ≤ every by omega)
          have hG1 : Good (m + 1) M := hG.1; have hB : bdd (m + 1) 2199023255552 M := hG1.bdd
          replace H := H.keep [1, 3, 4, 5, 7, 10, 11, 13] rfl
          refine seq_list (fun K15 hK15 => ?_)
          refine list_does H rfl (by first | exact does_loadBox agg_23 sz_23 rfl S (i := 0) rfl rfl | exact does_loadBox agg_23 sz_23 rfl S (i := 1) rfl rfl) ?_; clear H a; intro a H
          refine list_does H rfl (does_move rfl) ?_; clear H a; intro a H
          refine list_does H rfl (does_move rfl) ?_; clear H a; intro a H
          refine list_call H rfl rfl Try.func60 rfl rfl (ret_imp (chain_whole m ap ax k A cp (decide ((m : Int) = bl) && (decide (1 ≤ (ev : Int)) && decide ((ev : Int) ≤ (m : Int)))) _ (hk.now S) hkn) (fun _ _ => whole_ok (n := m + 1) hW)) ?_; clear H a
          rintro _ _ a ⟨W, rb, rc, rfl, S2⟩ H
          replace S := S.call S2; clear S2
          refine list_does H rfl (does_move rfl) ?_; clear H a; intro a H
          refine list_does H rfl (does_extract rfl rfl) ?_; clear H a; intro a H
          refine list_does H rfl (does_extract rfl rfl) ?_; clear H a; intro a H
          refine list_does H rfl (does_assign rfl) ?_; clear H a; intro a H
          refine list_does H rfl (does_assign rfl) ?_; clear H a; intro a H
          refine hK15 _ _ ?_
          clear hK15 K15
          refine wp_seq_k (fun K16 hK16 => ?_)
          replace H := H.keep [3, 4, 5, 7, 10, 11, 12, 13, 14] rfl
          refine seq_still (fun K17 hK17 => ?_)
          refine still_does H rfl (does_move rfl) ?_; clear H a; intro a H
          refine still_does H rfl (does_neq rfl rfl) ?_; clear H a; intro a H
          refine wpStill_nil (hK17 _ ?_)
          clear hK17 K17
          refine cond_ H rfl (fun hc4 => ?_) (fun hc4 => ?_)
          · try simp only [Bool.or_eq_true, Bool.and_eq_true, Bool.not_eq_true', Bool.or_eq_false_iff, Bool.and_eq_false_iff, Bool.not_eq_false', decide_eq_true_eq, decide_eq_false_iff_not, Int.not_lt, Int.not_le] at hc4
            all_goals first | (exfalso; omega) | (simp at hc4)
          · try simp only [Bool.or_eq_true, Bool.and_eq_true, Bool.not_eq_true', Bool.or_eq_false_iff, Bool.and_eq_false_iff, Bool.not_eq_false', decide_eq_true_eq, decide_eq_false_iff_not, Int.not_lt, Int.not_le] at hc4
            refine wp_skip ?_
            refine hK16 _ _ ?_
            rcases hW2 : wholeO (⟨bl, bp, bx⟩ : Chain) l (decide ((m : Int) = bl) && (decide (1 ≤ (ev : Int)) && decide ((ev : Int) ≤ (m : Int)))) with e | N
            · skip
              have he := wholeO_err hW2
              replace H := H.keep [3, 4, 5, 7, 10, 11, 13, 14] rfl
              refine seq_list (fun K18 hK18 => ?_)
              refine list_does H rfl (by first | exact does_loadBox agg_23 sz_23 rfl S (i := 0) rfl rfl | exact does_loadBox agg_23 sz_23 rfl S (i := 1) rfl rfl | exact does_loadBox agg_23 sz_23 rfl S (i := 2) rfl rfl | exact does_loadBox agg_23 sz_23 rfl S (i := 3) rfl rfl) ?_; clear H a; intro a H
              refine list_does H rfl (does_move rfl) ?_; clear H a; intro a H
              refine list_does H rfl (does_move rfl) ?_; clear H a; intro a H
              refine list_call H rfl rfl Try.func60 rfl rfl (ret_imp (chain_whole bl bp bx l B cq (decide ((m : Int) = bl) && (decide (1 ≤ (ev : Int)) && decide ((ev : Int) ≤ (m : Int)))) _ (hl.now S) hln) (fun _ _ => whole_err hW2)) ?_; clear H a
              rintro _ _ a ⟨rfl, S2⟩ H
              replace S := S.call S2; clear S2
              refine list_does H rfl (does_move rfl) ?_; clear H a; intro a H
              refine list_does H rfl (does_extract rfl rfl) ?_; clear H a; intro a H
              refine list_does H rfl (does_extract rfl rfl) ?_; clear H a; intro a H
              refine list_does H rfl (does_assign rfl) ?_; clear H a; intro a H
              refine list_does H rfl (does_assign rfl) ?_; clear H a; intro a H
              refine hK18 _ _ ?_
              clear hK18 K18
              refine wp_seq_k (fun K19 hK19 => ?_)
              replace H := H.keep [4, 5, 10, 11, 12, 14, 15] rfl
              refine seq_still (fun K20 hK20 => ?_)
              refine still_does H rfl (does_move rfl) ?_; clear H a; intro a H
              refine still_does H rfl (does_neq rfl rfl) ?_; clear H a; intro a H
              refine wpStill_nil (hK20 _ ?_)
              clear hK20 K20
              refine cond_ H rfl (fun hc5 => ?_) (fun hc5 => ?_)
              · try simp only [Bool.or_eq_true, Bool.and_eq_true, Bool.not_eq_true', Bool.or_eq_false_iff, Bool.and_eq_false_iff, Bool.not_eq_false', decide_eq_true_eq, decide_eq_false_iff_not, Int.not_lt, Int.not_le] at hc5
                replace H := H.keep [12] rfl
                refine seq_still (fun K21 hK21 => ?_)
                refine still_does H rfl (does_move rfl) ?_; clear H a; intro a H
                refine still_does H rfl (does_assign rfl) ?_; clear H a; intro a H
                refine still_does H rfl (does_assign rfl) ?_; clear H a; intro a H
                refine still_does H rfl (does_assign rfl) ?_; clear H a; intro a H
                refine wpStill_nil (hK21 _ ?_)
                clear hK21 K21
                refine wp_ret ?_
                refine ret3 (fn := Try.f34) rfl H rfl rfl rfl ?_
                exact ⟨by unfold skewO; rw [if_neg (by omega), if_neg (by omega)]; (try dsimp only); rw [hW]; (try dsimp only); rw [hW2]; rfl, (S.sel [] rfl rfl)⟩
              · try simp only [Bool.or_eq_true, Bool.and_eq_true, Bool.not_eq_true', Bool.or_eq_false_iff, Bool.and_eq_false_iff, Bool.not_eq_false', decide_eq_true_eq, decide_eq_false_iff_not, Int.not_lt, Int.not_le] at hc5
                all_goals (exfalso; omega)
            · skip
              obtain rfl : (m : Int) = bl := hAB.1
              have hG2 : Good (m + 1) N := (wholeO_good hW2).1; have hB2 : bdd (m + 1) 2199023255552 N := hG2.bdd
              replace H := H.keep [3, 4, 5, 7, 10, 11, 13, 14] rfl
              refine seq_list (fun K22 hK22 => ?_)
              refine list_does H rfl (by first | exact does_loadBox agg_23 sz_23 rfl S (i := 0) rfl rfl | exact does_loadBox agg_23 sz_23 rfl S (i := 1) rfl rfl | exact does_loadBox agg_23 sz_23 rfl S (i := 2) rfl rfl | exact does_loadBox agg_23 sz_23 rfl S (i := 3) rfl rfl) ?_; clear H a; intro a H
              refine list_does H rfl (does_move rfl) ?_; clear H a; intro a H
              refine list_does H rfl (does_move rfl) ?_; clear H a; intro a H
              refine list_call H rfl rfl Try.func60 rfl rfl (ret_imp (chain_whole m bp bx l B cq (decide ((m : Int) = (m : Int)) && (decide (1 ≤ (ev : Int)) && decide ((ev : Int) ≤ (m : Int)))) _ (hl.now S) hln) (fun _ _ => whole_ok (n := m + 1) hW2)) ?_; clear H a
              rintro _ _ a ⟨W2, rb2, rc2, rfl, S2⟩ H
              replace S := S.call S2; clear S2
              refine list_does H rfl (does_move rfl) ?_; clear H a; intro a H
              refine list_does H rfl (does_extract rfl rfl) ?_; clear H a; intro a H
              refine list_does H rfl (does_extract rfl rfl) ?_; clear H a; intro a H
              refine list_does H rfl (does_assign rfl) ?_; clear H a; intro a H
              refine list_does H rfl (does_assign rfl) ?_; clear H a; intro a H
              refine hK22 _ _ ?_
              clear hK22 K22
              refine wp_seq_k (fun K23 hK23 => ?_)
              replace H := H.keep [4, 5, 10, 11, 12, 14, 15] rfl
              refine seq_still (fun K24 hK24 => ?_)
              refine still_does H rfl (does_move rfl) ?_; clear H a; intro a H
              refine still_does H rfl (does_neq rfl rfl) ?_; clear H a; intro a H
              refine wpStill_nil (hK24 _ ?_)
              clear hK24 K24
              refine cond_ H rfl (fun hc6 => ?_) (fun hc6 => ?_)
              · try simp only [Bool.or_eq_true, Bool.and_eq_true, Bool.not_eq_true', Bool.or_eq_false_iff, Bool.and_eq_false_iff, Bool.not_eq_false', decide_eq_true_eq, decide_eq_false_iff_not, Int.not_lt, Int.not_le] at hc6
                all_goals first | (exfalso; omega) | (simp at hc6)
              · try simp only [Bool.or_eq_true, Bool.and_eq_true, Bool.not_eq_true', Bool.or_eq_false_iff, Bool.and_eq_false_iff, Bool.not_eq_false', decide_eq_true_eq, decide_eq_false_iff_not, Int.not_lt, Int.not_le] at hc6
                refine wp_skip ?_
                refine hK23 _ _ ?_
                refine wp_seq_k (fun K25 hK25 => ?_)
                replace H := H.keep [4, 5, 10, 11, 14, 15] rfl
                refine seq_still (fun K26 hK26 => ?_)
                refine still_does H rfl (does_move rfl) ?_; clear H a; intro a H
                refine still_does H rfl (does_assign rfl) ?_; clear H a; intro a H
                refine wpStill_nil (hK26 _ ?_)
                clear hK26 K26
                refine wp_block ?_
                refine loop_st (X := Nat × Nat × Int × Int) (R0 := _) [4, 5, 14, 15] H rfl (fun ⟨q, e, at_, mo⟩ => [(10, .int .i64 at_), (11, .int .i64 mo), (16, .int .i64 (e : Int))]) (fun ⟨q, e, at_, mo⟩ => []) (fun g ⟨q, e, at_, mo⟩ => e = (q + 1) * ev ∧ q * ev ≤ m ∧ skTo M N ev q = (at_, mo) ∧ g + e = m + ev) (m) (0, ev, 0, 0) ?_ (S.sel [0, 1, 2, 3, 4, 5] rfl rfl) (H.keep [10, 11, 16, 4, 5, 14, 15] rfl) ?_
                · exact ⟨by omega, by omega, rfl, by omega⟩
                · intro g1 x1 a w1 hp S H K27 hK27
                  obtain ⟨q, e, at_, mo⟩ := x1
                  dsimp only at hp S H
                  have hat : at_ = 0 ↔ q = 0 := by
                    have h9 := hp.2.2.1
                    constructor
                    · intro h0
                      rcases Nat.eq_zero_or_pos q with h | h
                      · exact h
                      · have h8 := skTo_pos (M := M) (N := N) (ev := ev) (by omega) q h; rw [h9] at h8; dsimp only at h8; omega
                    · intro h0; subst h0; cases h9; rfl
                  refine wp_seq_k (fun K28 hK28 => ?_)
                  replace H := H.keep [4, 5, 10, 11, 14, 15, 16] rfl
                  refine seq_still (fun K29 hK29 => ?_)
                  refine still_does H rfl (does_move rfl) ?_; clear H a; intro a H
                  refine still_does H rfl (by first | exact does_field_pt fo_23_0 rfl | exact does_field fo_23_0 rfl) ?_; clear H a; intro a H
                  refine still_does H rfl (does_load one_3 rfl (by first | exact boxM.rd S (i := 0) rfl rfl | exact boxM.rd S (i := 1) rfl rfl | exact boxM.rd S (i := 2) rfl rfl | exact boxM.rd S (i := 3) rfl rfl | exact boxM.rd S (i := 4) rfl rfl | exact boxM.rd S (i := 5) rfl rfl)) ?_; clear H a; intro a H
                  refine still_does H rfl (does_leq rfl rfl) ?_; clear H a; intro a H
                  refine wpStill_nil (hK29 _ ?_)
                  clear hK29 K29
                  refine cond_ H rfl (fun hc7 => ?_) (fun hc7 => ?_)
                  · try simp only [Bool.or_eq_true, Bool.and_eq_true, Bool.not_eq_true', Bool.or_eq_false_iff, Bool.and_eq_false_iff, Bool.not_eq_false', decide_eq_true_eq, decide_eq_false_iff_not, Int.not_lt, Int.not_le] at hc7
                    refine wp_skip ?_
                    refine hK28 _ _ ?_
                    refine wp_seq_k (fun K30 hK30 => ?_)
                    refine wp_block ?_
                    replace H := H.keep [4, 5, 10, 11, 14, 15, 16] rfl
                    refine seq_list (fun K31 hK31 => ?_)
                    refine list_does H rfl (does_move rfl) ?_; clear H a; intro a H
                    refine list_does H rfl (does_move rfl) ?_; clear H a; intro a H
                    have S1 := (S.sel [2, 3] rfl rfl)
                    refine list_call H rfl rfl Try.func62 rfl rfl (web_span (m + 1) (m + 1) W rb rc M 0 e _ _ S1.startR (by omega) (by omega) (fun x y hx hy => by have := hB x y hx hy; omega)) ?_; clear H a
                    rintro _ _ a ⟨rfl, S2⟩ H
                    replace S := (S.sel [2, 3, 0, 1, 4, 5] rfl rfl).callR (M := [_, _]) S2; clear S1 S2
                    refine list_does H rfl (does_move rfl) ?_; clear H a; intro a H
                    refine list_does H rfl (does_move rfl) ?_; clear H a; intro a H
                    have S1 := (S.sel [2, 3] rfl rfl)
                    refine list_call H rfl rfl Try.func62 rfl rfl (web_span (m + 1) (m + 1) W2 rb2 rc2 N 0 e _ _ S1.startR (by omega) (by omega) (fun x y hx hy => by have := hB2 x y hx hy; omega)) ?_; clear H a
                    rintro _ _ a ⟨rfl, S2⟩ H
                    replace S := (S.sel [2, 3, 0, 1, 4, 5] rfl rfl).callR (M := [_, _]) S2; clear S1 S2
                    refine list_alloc H rfl S ze_42 ?_; clear H a S; intro b17 _ a hb17 hbw17 S H
                    refine list_alloc H rfl S ze_42 ?_; clear H a S; intro b18 _ a hb18 hbw18 S H
                    first | (refine list_store H S (i := 0) rfl rfl rfl rfl sz_42 rfl rfl ?_) | (refine list_store H S (i := 1) rfl rfl rfl rfl sz_42 rfl rfl ?_) | (refine list_store H S (i := 2) rfl rfl rfl rfl sz_42 rfl rfl ?_) | (refine list_store H S (i := 3) rfl rfl rfl rfl sz_42 rfl rfl ?_) | (refine list_store H S (i := 4) rfl rfl rfl rfl sz_42 rfl rfl ?_) | (refine list_store H S (i := 5) rfl rfl rfl rfl sz_42 rfl rfl ?_) | (refine list_store H S (i := 6) rfl rfl rfl rfl sz_42 rfl rfl ?_) | (refine list_store H S (i := 7) rfl rfl rfl rfl sz_42 rfl rfl ?_) | (refine list_store_own H S (i := 0) rfl rfl rfl (by omega) (by omega) sz_42 rfl ?_) | (refine list_store_own H S (i := 1) rfl rfl rfl (by omega) (by omega) sz_42 rfl ?_) | (refine list_store_own H S (i := 2) rfl rfl rfl (by omega) (by omega) sz_42 rfl ?_) | (refine list_store_own H S (i := 3) rfl rfl rfl (by omega) (by omega) sz_42 rfl ?_) | (refine list_store_own H S (i := 4) rfl rfl rfl (by omega) (by omega) sz_42 rfl ?_) | (refine list_store_own H S (i := 5) rfl rfl rfl (by omega) (by omega) sz_42 rfl ?_) | (refine list_store_own H S (i := 6) rfl rfl rfl (by omega) (by omega) sz_42 rfl ?_) | (refine list_store_own H S (i := 7) rfl rfl rfl (by omega) (by omega) sz_42 rfl ?_)
                    clear H a S; intro _ a S H
                    first | (refine list_store H S (i := 0) rfl rfl rfl rfl sz_42 rfl rfl ?_) | (refine list_store H S (i := 1) rfl rfl rfl rfl sz_42 rfl rfl ?_) | (refine list_store H S (i := 2) rfl rfl rfl rfl sz_42 rfl rfl ?_) | (refine list_store H S (i := 3) rfl rfl rfl rfl sz_42 rfl rfl ?_) | (refine list_store H S (i := 4) rfl rfl rfl rfl sz_42 rfl rfl ?_) | (refine list_store H S (i := 5) rfl rfl rfl rfl sz_42 rfl rfl ?_) | (refine list_store H S (i := 6) rfl rfl rfl rfl sz_42 rfl rfl ?_) | (refine list_store H S (i := 7) rfl rfl rfl rfl sz_42 rfl rfl ?_) | (refine list_store_own H S (i := 0) rfl rfl rfl (by omega) (by omega) sz_42 rfl ?_) | (refine list_store_own H S (i := 1) rfl rfl rfl (by omega) (by omega) sz_42 rfl ?_) | (refine list_store_own H S (i := 2) rfl rfl rfl (by omega) (by omega) sz_42 rfl ?_) | (refine list_store_own H S (i := 3) rfl rfl rfl (by omega) (by omega) sz_42 rfl ?_) | (refine list_store_own H S (i := 4) rfl rfl rfl (by omega) (by omega) sz_42 rfl ?_) | (refine list_store_own H S (i := 5) rfl rfl rfl (by omega) (by omega) sz_42 rfl ?_) | (refine list_store_own H S (i := 6) rfl rfl rfl (by omega) (by omega) sz_42 rfl ?_) | (refine list_store_own H S (i := 7) rfl rfl rfl (by omega) (by omega) sz_42 rfl ?_)
                    clear H a S; intro _ a S H
                    refine hK31 _ _ ?_
                    clear hK31 K31
                    have hb1 := hB 0 e (by omega) (by omega); have hb2 := hB e 0 (by omega) (by omega); have hb3 := hB2 0 e (by omega) (by omega); have hb4 := hB2 e 0 (by omega) (by omega)
                    replace H := H.keep [4, 5, 10, 11, 14, 15, 16, 17, 18] rfl
                    refine seq_still (fun K32 hK32 => ?_)
                    refine still_does H rfl (by first | exact does_field_pt fo_42_1 rfl | exact does_field fo_42_1 rfl) ?_; clear H a; intro a H
                    refine still_does H rfl (does_load one_3 rfl (by first | exact boxM.rd S (i := 0) rfl rfl | exact boxM.rd S (i := 1) rfl rfl | exact boxM.rd S (i := 2) rfl rfl | exact boxM.rd S (i := 3) rfl rfl | exact boxM.rd S (i := 4) rfl rfl | exact boxM.rd S (i := 5) rfl rfl | exact boxM.rd S (i := 6) rfl rfl | exact boxM.rd S (i := 7) rfl rfl)) ?_; clear H a; intro a H
                    refine still_does H rfl (by first | exact does_field_pt fo_42_0 rfl | exact does_field fo_42_0 rfl) ?_; clear H a; intro a H
                    refine still_does H rfl (does_load one_3 rfl (by first | exact boxM.rd S (i := 0) rfl rfl | exact boxM.rd S (i := 1) rfl rfl | exact boxM.rd S (i := 2) rfl rfl | exact boxM.rd S (i := 3) rfl rfl | exact boxM.rd S (i := 4) rfl rfl | exact boxM.rd S (i := 5) rfl rfl | exact boxM.rd S (i := 6) rfl rfl | exact boxM.rd S (i := 7) rfl rfl)) ?_; clear H a; intro a H
                    refine still_does H rfl (does_sub rfl rfl (by unfold i64ok; omega)) ?_; clear H a; intro a H
                    refine still_does H rfl (by first | exact does_field_pt fo_42_1 rfl | exact does_field fo_42_1 rfl) ?_; clear H a; intro a H
                    refine still_does H rfl (does_load one_3 rfl (by first | exact boxM.rd S (i := 0) rfl rfl | exact boxM.rd S (i := 1) rfl rfl | exact boxM.rd S (i := 2) rfl rfl | exact boxM.rd S (i := 3) rfl rfl | exact boxM.rd S (i := 4) rfl rfl | exact boxM.rd S (i := 5) rfl rfl | exact boxM.rd S (i := 6) rfl rfl | exact boxM.rd S (i := 7) rfl rfl)) ?_; clear H a; intro a H
                    refine still_does H rfl (by first | exact does_field_pt fo_42_0 rfl | exact does_field fo_42_0 rfl) ?_; clear H a; intro a H
                    refine still_does H rfl (does_load one_3 rfl (by first | exact boxM.rd S (i := 0) rfl rfl | exact boxM.rd S (i := 1) rfl rfl | exact boxM.rd S (i := 2) rfl rfl | exact boxM.rd S (i := 3) rfl rfl | exact boxM.rd S (i := 4) rfl rfl | exact boxM.rd S (i := 5) rfl rfl | exact boxM.rd S (i := 6) rfl rfl | exact boxM.rd S (i := 7) rfl rfl)) ?_; clear H a; intro a H
                    refine still_does H rfl (does_sub rfl rfl (by unfold i64ok; omega)) ?_; clear H a; intro a H
                    refine still_does H rfl (does_max rfl rfl) ?_; clear H a; intro a H
                    refine still_does H rfl (does_assign rfl) ?_; clear H a; intro a H
                    refine wpStill_nil (hK32 _ ?_)
                    clear hK32 K32
                    replace H := H.keep [4, 5, 10, 11, 14, 15, 16, 19] rfl
                    refine seq_still (fun K33 hK33 => ?_)
                    refine still_does H rfl (does_move rfl) ?_; clear H a; intro a H
                    refine still_does H rfl (does_eql rfl rfl) ?_; clear H a; intro a H
                    refine still_does H rfl (does_move rfl) ?_; clear H a; intro a H
                    apply still_guard (i := 2) (g := 90) (t := 93) (b := false) 3 H rfl rfl (by kernel_rfl) (by kernel_rfl) rfl rfl
                    case h1 =>
                      intro hg3
                      refine still_yes' H rfl rfl (by assumption) ?_
                      refine still_does H rfl (does_move rfl) ?_; intro a H
                      refine still_yes' H rfl rfl (by assumption) ?_
                      refine still_does H rfl (does_move rfl) ?_; intro a H
                      refine still_yes' H rfl rfl (by assumption) ?_
                      refine still_does H rfl (does_gtr rfl rfl) ?_; intro a H
                      exact wpStill_nil (H.strip 3 rfl rfl)
                    case k =>
                      clear H a; intro a H
                      refine still_does H rfl (by first | exact does_or rfl rfl rfl | exact does_pick rfl rfl rfl) ?_; clear H a; intro a H
                      refine wpStill_nil (hK33 _ ?_)
                      clear hK33 K33
                      refine cond_ H rfl (fun hc8 => ?_) (fun hc8 => ?_)
                      · try simp only [Bool.or_eq_true, Bool.and_eq_true, Bool.not_eq_true', Bool.or_eq_false_iff, Bool.and_eq_false_iff, Bool.not_eq_false', decide_eq_true_eq, decide_eq_false_iff_not, Int.not_lt, Int.not_le] at hc8
                        replace H := H.keep [4, 5, 14, 15, 16, 19] rfl
                        refine one_still ?_
                        refine still_does H rfl (does_move rfl) ?_; clear H a; intro a H
                        refine still_does H rfl (does_move rfl) ?_; clear H a; intro a H
                        refine still_does H rfl (does_assign rfl) ?_; clear H a; intro a H
                        refine still_does H rfl (does_assign rfl) ?_; clear H a; intro a H
                        refine wpStill_nil ?_
                        refine hK30 _ _ ?_
                        replace H := H.keep [4, 5, 10, 11, 14, 15, 16] rfl
                        refine one_still ?_
                        refine still_does H rfl (does_move rfl) ?_; clear H a; intro a H
                        refine still_does H rfl (does_move rfl) ?_; clear H a; intro a H
                        refine still_does H rfl (does_add rfl rfl (by unfold i64ok; omega)) ?_; clear H a; intro a H
                        refine still_does H rfl (does_assign rfl) ?_; clear H a; intro a H
                        refine wpStill_nil ?_
                        exact hK27 (g1 - ev) (q + 1, e + ev, _, _) a _ (by omega) (⟨by rw [hp.1]; exact (Nat.succ_mul _ _).symm, by rw [← hp.1]; omega, by rw [skTo, hp.2.2.1, ← hp.1]; first | rw [if_pos (by unfold skD; (try dsimp only); omega)]; rfl | rw [if_neg (by unfold skD; (try dsimp only); omega)], by omega⟩) (S.sel [2, 3, 4, 5, 6, 7] rfl rfl) (H.keep [10, 11, 16, 4, 5, 14, 15] rfl)
                      · try simp only [Bool.or_eq_true, Bool.and_eq_true, Bool.not_eq_true', Bool.or_eq_false_iff, Bool.and_eq_false_iff, Bool.not_eq_false', decide_eq_true_eq, decide_eq_false_iff_not, Int.not_lt, Int.not_le] at hc8
                        refine wp_skip ?_
                        refine hK30 _ _ ?_
                        replace H := H.keep [4, 5, 10, 11, 14, 15, 16] rfl
                        refine one_still ?_
                        refine still_does H rfl (does_move rfl) ?_; clear H a; intro a H
                        refine still_does H rfl (does_move rfl) ?_; clear H a; intro a H
                        refine still_does H rfl (does_add rfl rfl (by unfold i64ok; omega)) ?_; clear H a; intro a H
                        refine still_does H rfl (does_assign rfl) ?_; clear H a; intro a H
                        refine wpStill_nil ?_
                        exact hK27 (g1 - ev) (q + 1, e + ev, _, _) a _ (by omega) (⟨by rw [hp.1]; exact (Nat.succ_mul _ _).symm, by rw [← hp.1]; omega, by rw [skTo, hp.2.2.1, ← hp.1]; first | rw [if_pos (by unfold skD; (try dsimp only); omega)]; rfl | rw [if_neg (by unfold skD; (try dsimp only); omega)], by omega⟩) (S.sel [2, 3, 4, 5, 6, 7] rfl rfl) (H.keep [10, 11, 16, 4, 5, 14, 15] rfl)
                  · try simp only [Bool.or_eq_true, Bool.and_eq_true, Bool.not_eq_true', Bool.or_eq_false_iff, Bool.and_eq_false_iff, Bool.not_eq_false', decide_eq_true_eq, decide_eq_false_iff_not, Int.not_lt, Int.not_le] at hc7
                    refine wp_exit ?_
                    refine hK25 _ _ ?_
                    replace H := H.keep [10, 11] rfl
                    refine seq_still (fun K37 hK37 => ?_)
                    refine still_does H rfl (does_move rfl) ?_; clear H a; intro a H
                    refine still_does H rfl (does_move rfl) ?_; clear H a; intro a H
                    refine still_does H rfl (does_assign rfl) ?_; clear H a; intro a H
                    refine still_does H rfl (does_assign rfl) ?_; clear H a; intro a H
                    refine still_does H rfl (does_assign rfl) ?_; clear H a; intro a H
                    refine wpStill_nil (hK37 _ ?_)
                    clear hK37 K37
                    refine wp_ret ?_
                    refine ret3 (fn := Try.f34) rfl H rfl rfl rfl ?_
                    have h8 : skewO (⟨(m : Int), ap, ax⟩ : Chain) k (⟨(m : Int), bp, bx⟩ : Chain) l (ev : Int) = (at_, mo, 0) := by
                      have hq : m / ev = q := Nat.div_eq_of_lt_le hp.2.1 (by rw [← hp.1]; omega)
                      unfold skewO; rw [if_neg (by omega), if_neg (by omega)]; show (match wholeO (⟨(m : Int), ap, ax⟩ : Chain) k (decide ((m : Int) = (m : Int)) && (decide (1 ≤ (ev : Int)) && decide ((ev : Int) ≤ (m : Int)))) with | .error e => (0, 0, e) | .ok M => (match wholeO (⟨(m : Int), bp, bx⟩ : Chain) l (decide ((m : Int) = (m : Int)) && (decide (1 ≤ (ev : Int)) && decide ((ev : Int) ≤ (m : Int)))) with | .error e => (0, 0, e) | .ok N => ((skTo M N ((ev : Nat) : Int).toNat (((m : Nat) : Int).toNat / ((ev : Nat) : Int).toNat)).1, (skTo M N ((ev : Nat) : Int).toNat (((m : Nat) : Int).toNat / ((ev : Nat) : Int).toNat)).2, (0 : Int)))) = _
                      rw [hW, hW2]; show ((skTo M N ev (m / ev)).1, (skTo M N ev (m / ev)).2, (0 : Int)) = _; rw [hq]; rw [hp.2.2.1]
                    rw [h8]; exact ⟨rfl, (S.sel [] rfl rfl)⟩

set_option maxRecDepth 100000 in
set_option maxHeartbeats 1000000 in
theorem ref_Skew (al ap ax : Int) (k : List Gauge) (A : Option Addr) (cp : Nat) (bl bp bx : Int) (l : List Gauge) (B : Option Addr) (cq : Nat) (every : Int) (w : World) (hk : InS w noF 4 A k.length (gcell k)) (hkn : k.length ≤ 9223372036854775807) (hl : InS w noF 4 B l.length (gcell l)) (hln : l.length ≤ 9223372036854775807) :
    Calls Try.prog 35 [.agg [.int .i64 al, .int .i64 ap, .int .i64 ax].toArray, .slice A k.length cp, .agg [.int .i64 bl, .int .i64 bp, .int .i64 bx].toArray, .slice B l.length cq, .int .i64 every].toArray w (Ret (fun v w' => v = .tuple #[.int .i64 (skewO (⟨al, ap, ax⟩ : Chain) k (⟨bl, bp, bx⟩ : Chain) l every).1, .int .i64 (skewO (⟨al, ap, ax⟩ : Chain) k (⟨bl, bp, bx⟩ : Chain) l every).2.1, .int .i64 (skewO (⟨al, ap, ax⟩ : Chain) k (⟨bl, bp, bx⟩ : Chain) l every).2.2] ∧ St w noF [] w')) := by
  refine enter Try.func35 rfl Try.ntmps35 rfl (fun a H => ?_)
  have S := St.start w
  refine seq_list (fun K1 hK1 => ?_)
  refine list_box H rfl S rfl rfl ?_; clear H a S; intro b5 _ a hb5 hbw5 S H
  refine list_box H rfl S rfl rfl ?_; clear H a S; intro b7 _ a hb7 hbw7 S H
  refine list_does H rfl (does_assign rfl) ?_; clear H a; intro a H
  refine list_does H rfl (does_assign rfl) ?_; clear H a; intro a H
  refine list_does H rfl (does_assign rfl) ?_; clear H a; intro a H
  refine hK1 _ _ ?_
  clear hK1 K1
  replace H := H.keep [1, 3, 4, 5, 7] rfl
  refine seq_list (fun K2 hK2 => ?_)
  refine list_does H rfl (by first | exact does_loadBox agg_23 sz_23 rfl S (i := 0) rfl rfl | exact does_loadBox agg_23 sz_23 rfl S (i := 1) rfl rfl) ?_; clear H a; intro a H
  refine list_does H rfl (does_move rfl) ?_; clear H a; intro a H
  refine list_call H rfl rfl Try.func24 rfl rfl (ref_Check al ap ax k A cp _ (hk.now S) hkn) ?_; clear H a
  rintro _ _ a ⟨rfl, S2⟩ H
  replace S := S.call S2; clear S2
  refine list_does H rfl (does_assign rfl) ?_; clear H a; intro a H
  refine hK2 _ _ ?_
  clear hK2 K2
  refine wp_seq_k (fun K3 hK3 => ?_)
  replace H := H.keep [1, 3, 4, 5, 7, 13] rfl
  refine seq_still (fun K4 hK4 => ?_)
  refine still_does H rfl (does_move rfl) ?_; clear H a; intro a H
  refine still_does H rfl (does_neq rfl rfl) ?_; clear H a; intro a H
  refine wpStill_nil (hK4 _ ?_)
  clear hK4 K4
  refine cond_ H rfl (fun hc1 => ?_) (fun hc1 => ?_)
  · try simp only [Bool.or_eq_true, Bool.and_eq_true, Bool.not_eq_true', Bool.or_eq_false_iff, Bool.and_eq_false_iff, Bool.not_eq_false', decide_eq_true_eq, decide_eq_false_iff_not, Int.not_lt, Int.not_le] at hc1
    replace H := H.keep [13] rfl
    refine seq_still (fun K5 hK5 => ?_)
    refine still_does H rfl (does_move rfl) ?_; clear H a; intro a H
    refine still_does H rfl (does_assign rfl) ?_; clear H a; intro a H
    refine still_does H rfl (does_assign rfl) ?_; clear H a; intro a H
    refine still_does H rfl (does_assign rfl) ?_; clear H a; intro a H
    refine wpStill_nil (hK5 _ ?_)
    clear hK5 K5
    refine wp_ret ?_
    refine ret3 (fn := Try.f35) rfl H rfl rfl rfl ?_
    exact ⟨by unfold skewO; rw [if_pos (by omega)], (S.sel [] rfl rfl)⟩
  · try simp only [Bool.or_eq_true, Bool.and_eq_true, Bool.not_eq_true', Bool.or_eq_false_iff, Bool.and_eq_false_iff, Bool.not_eq_false', decide_eq_true_eq, decide_eq_false_iff_not, Int.not_lt, Int.not_le] at hc1
    refine wp_skip ?_
    refine hK3 _ _ ?_
    replace H := H.keep [1, 3, 4, 5, 7] rfl
    refine seq_list (fun K6 hK6 => ?_)
    refine list_does H rfl (by first | exact does_loadBox agg_23 sz_23 rfl S (i := 0) rfl rfl | exact does_loadBox agg_23 sz_23 rfl S (i := 1) rfl rfl) ?_; clear H a; intro a H
    refine list_does H rfl (does_move rfl) ?_; clear H a; intro a H
    refine list_call H rfl rfl Try.func24 rfl rfl (ref_Check bl bp bx l B cq _ (hl.now S) hln) ?_; clear H a
    rintro _ _ a ⟨rfl, S2⟩ H
    replace S := S.call S2; clear S2
    refine list_does H rfl (does_assign rfl) ?_; clear H a; intro a H
    refine hK6 _ _ ?_
    clear hK6 K6
    refine wp_seq_k (fun K7 hK7 => ?_)
    replace H := H.keep [1, 3, 4, 5, 7, 13] rfl
    refine seq_still (fun K8 hK8 => ?_)
    refine still_does H rfl (does_move rfl) ?_; clear H a; intro a H
    refine still_does H rfl (does_neq rfl rfl) ?_; clear H a; intro a H
    refine wpStill_nil (hK8 _ ?_)
    clear hK8 K8
    refine cond_ H rfl (fun hc2 => ?_) (fun hc2 => ?_)
    · try simp only [Bool.or_eq_true, Bool.and_eq_true, Bool.not_eq_true', Bool.or_eq_false_iff, Bool.and_eq_false_iff, Bool.not_eq_false', decide_eq_true_eq, decide_eq_false_iff_not, Int.not_lt, Int.not_le] at hc2
      replace H := H.keep [13] rfl
      refine seq_still (fun K9 hK9 => ?_)
      refine still_does H rfl (does_move rfl) ?_; clear H a; intro a H
      refine still_does H rfl (does_assign rfl) ?_; clear H a; intro a H
      refine still_does H rfl (does_assign rfl) ?_; clear H a; intro a H
      refine still_does H rfl (does_assign rfl) ?_; clear H a; intro a H
      refine wpStill_nil (hK9 _ ?_)
      clear hK9 K9
      refine wp_ret ?_
      refine ret3 (fn := Try.f35) rfl H rfl rfl rfl ?_
      exact ⟨by unfold skewO; rw [if_neg (by omega), if_pos (by omega)], (S.sel [] rfl rfl)⟩
    · try simp only [Bool.or_eq_true, Bool.and_eq_true, Bool.not_eq_true', Bool.or_eq_false_iff, Bool.and_eq_false_iff, Bool.not_eq_false', decide_eq_true_eq, decide_eq_false_iff_not, Int.not_lt, Int.not_le] at hc2
      refine wp_skip ?_
      refine hK7 _ _ ?_
      refine wp_seq_k (fun K10 hK10 => ?_)
      replace H := H.keep [1, 3, 4, 5, 7] rfl
      refine seq_still (fun K11 hK11 => ?_)
      refine still_does H rfl (by first | exact does_field_pt fo_23_0 rfl | exact does_field fo_23_0 rfl) ?_; clear H a; intro a H
      refine still_does H rfl (does_load one_3 rfl (by first | exact boxM.rd S (i := 0) rfl rfl | exact boxM.rd S (i := 1) rfl rfl)) ?_; clear H a; intro a H
      refine still_does H rfl (by first | exact does_field_pt fo_23_0 rfl | exact does_field fo_23_0 rfl) ?_; clear H a; intro a H
      refine still_does H rfl (does_load one_3 rfl (by first | exact boxM.rd S (i := 0) rfl rfl | exact boxM.rd S (i := 1) rfl rfl)) ?_; clear H a; intro a H
      refine still_does H rfl (does_neq rfl rfl) ?_; clear H a; intro a H
      refine still_does H rfl (does_move rfl) ?_; clear H a; intro a H
      apply still_guard (i := 5) (g := 41) (t := 46) (b := false) 5 H rfl rfl (by kernel_rfl) (by kernel_rfl) rfl rfl
      case h1 =>
        intro hg6
        refine still_yes' H rfl rfl (by assumption) ?_
        refine still_does H rfl (does_move rfl) ?_; intro a H
        refine still_yes' H rfl rfl (by assumption) ?_
        refine still_does H rfl (by first | exact does_field_pt fo_23_0 rfl | exact does_field fo_23_0 rfl) ?_; intro a H
        refine still_yes' H rfl rfl (by assumption) ?_
        refine still_does H rfl (does_load one_3 rfl (by first | exact boxM.rd S (i := 0) rfl rfl | exact boxM.rd S (i := 1) rfl rfl)) ?_; intro a H
        refine still_yes' H rfl rfl (by assumption) ?_
        refine still_call H rfl rfl Try.func67 rfl rfl (ref_from _ _ _ _) ?_; intro a H
        refine still_yes' H rfl rfl (by assumption) ?_
        refine still_does H rfl (does_not rfl) ?_; intro a H
        exact wpStill_nil (H.strip 5 rfl rfl)
      case k =>
        clear H a; intro a H
        refine still_does H rfl (by first | exact does_or rfl rfl rfl | exact does_pick rfl rfl rfl) ?_; clear H a; intro a H
        refine wpStill_nil (hK11 _ ?_)
        clear hK11 K11
        refine cond_ H rfl (fun hc3 => ?_) (fun hc3 => ?_)
        · try simp only [Bool.or_eq_true, Bool.and_eq_true, Bool.not_eq_true', Bool.or_eq_false_iff, Bool.and_eq_false_iff, Bool.not_eq_false', decide_eq_true_eq, decide_eq_false_iff_not, Int.not_lt, Int.not_le] at hc3
          replace H := H.keep [] rfl
          refine seq_still (fun K12 hK12 => ?_)
          refine still_does H rfl (does_assign rfl) ?_; clear H a; intro a H
          refine still_does H rfl (does_assign rfl) ?_; clear H a; intro a H
          refine still_does H rfl (does_assign rfl) ?_; clear H a; intro a H
          refine wpStill_nil (hK12 _ ?_)
          clear hK12 K12
          refine wp_ret ?_
          refine ret3 (fn := Try.f35) rfl H rfl rfl rfl ?_
          exact ⟨by unfold skewO wholeO; rw [if_neg (by omega), if_neg (by omega), if_neg (by omega)]; rw [show (decide (al = bl) && (decide (1 ≤ every) && decide (every ≤ al))) = false from by rw [← Bool.not_eq_true]; simp only [Bool.and_eq_true, decide_eq_true_eq]; omega]; rfl, (S.sel [] rfl rfl)⟩
        · try simp only [Bool.or_eq_true, Bool.and_eq_true, Bool.not_eq_true', Bool.or_eq_false_iff, Bool.and_eq_false_iff, Bool.not_eq_false', decide_eq_true_eq, decide_eq_false_iff_not, Int.not_lt, Int.not_le] at hc3
          refine wp_skip ?_
          refine hK10 _ _ ?_
          have hka := checkE_ok (c := (⟨al, ap, ax⟩ : Chain)) (l := k) (by omega); have hkb := checkE_ok (c := (⟨bl, bp, bx⟩ : Chain)) (l := l) (by omega); have hla := hka.2.1; have hlb := hkb.2.1
          have hC := hka.1; unfold chainOk at hC; simp only [decide_eq_true_eq] at hC
          obtain ⟨m, rfl⟩ := Int.eq_ofNat_of_zero_le (show 0 ≤ al by omega)
          obtain rfl : (m : Int) = bl := by omega
          obtain ⟨ev, rfl⟩ := Int.eq_ofNat_of_zero_le (show 0 ≤ every by omega)
          have hak : (decide ((m : Int) = (m : Int)) && (decide (1 ≤ (ev : Int)) && decide ((ev : Int) ≤ (m : Int)))) = true := by rw [decide_eq_true (Eq.refl (m : Int)), decide_eq_true (show (1 : Int) ≤ ev by omega), decide_eq_true (show (ev : Int) ≤ m by omega)]; rfl
          rcases hW0 : weaveW (⟨(m : Int), ap, ax⟩ : Chain) k yes with _ | M
          · skip
            skip
            replace H := H.keep [1, 3, 4, 5, 7] rfl
            refine seq_list (fun K13 hK13 => ?_)
            refine list_does H rfl (by first | exact does_loadBox agg_23 sz_23 rfl S (i := 0) rfl rfl | exact does_loadBox agg_23 sz_23 rfl S (i := 1) rfl rfl) ?_; clear H a; intro a H
            refine list_does H rfl (does_move rfl) ?_; clear H a; intro a H
            refine list_call H rfl rfl Try.func68 rfl rfl (ret_imp (ref_buildI m ap ax k A cp _ hka.1 (by omega) hka.2.2 (hk.now S)) (fun _ _ => built_none hW0)) ?_; clear H a
            rintro _ _ a ⟨W, cw, rfl, S2⟩ H
            replace S := S.call S2; clear S2
            refine list_does H rfl (does_move rfl) ?_; clear H a; intro a H
            refine list_does H rfl (does_extract rfl rfl) ?_; clear H a; intro a H
            refine list_does H rfl (does_extract rfl rfl) ?_; clear H a; intro a H
            refine list_does H rfl (does_assign rfl) ?_; clear H a; intro a H
            refine list_does H rfl (does_assign rfl) ?_; clear H a; intro a H
            refine hK13 _ _ ?_
            clear hK13 K13
            rcases hW1 : weaveW (⟨(m : Int), bp, bx⟩ : Chain) l yes with _ | N
            · skip
              skip
              replace H := H.keep [3, 4, 5, 7, 14, 15] rfl
              refine seq_list (fun K14 hK14 => ?_)
              refine list_does H rfl (by first | exact does_loadBox agg_23 sz_23 rfl S (i := 0) rfl rfl | exact does_loadBox agg_23 sz_23 rfl S (i := 1) rfl rfl) ?_; clear H a; intro a H
              refine list_does H rfl (does_move rfl) ?_; clear H a; intro a H
              refine list_call H rfl rfl Try.func68 rfl rfl (ret_imp (ref_buildI m bp bx l B cq _ hkb.1 (by omega) hkb.2.2 (hl.now S)) (fun _ _ => built_none hW1)) ?_; clear H a
              rintro _ _ a ⟨W2, cw2, rfl, S2⟩ H
              replace S := S.call S2; clear S2
              refine list_does H rfl (does_move rfl) ?_; clear H a; intro a H
              refine list_does H rfl (does_extract rfl rfl) ?_; clear H a; intro a H
              refine list_does H rfl (does_extract rfl rfl) ?_; clear H a; intro a H
              refine list_does H rfl (does_assign rfl) ?_; clear H a; intro a H
              refine list_does H rfl (does_assign rfl) ?_; clear H a; intro a H
              refine hK14 _ _ ?_
              clear hK14 K14
              refine wp_seq_k (fun K15 hK15 => ?_)
              replace H := H.keep [4, 5, 14, 15, 16, 17] rfl
              refine seq_still (fun K16 hK16 => ?_)
              refine still_does H rfl (does_move rfl) ?_; clear H a; intro a H
              refine still_does H rfl (does_not rfl) ?_; clear H a; intro a H
              refine still_does H rfl (does_move rfl) ?_; clear H a; intro a H
              apply still_guard (i := 2) (g := 62) (t := 64) (b := false) 2 H rfl rfl (by kernel_rfl) (by kernel_rfl) rfl rfl
              case h1 =>
                intro hg3
                refine still_yes' H rfl rfl (by assumption) ?_
                refine still_does H rfl (does_move rfl) ?_; intro a H
                refine still_yes' H rfl rfl (by assumption) ?_
                refine still_does H rfl (does_not rfl) ?_; intro a H
                exact wpStill_nil (H.strip 2 rfl rfl)
              case k =>
                clear H a; intro a H
                refine still_does H rfl (by first | exact does_or rfl rfl rfl | exact does_pick rfl rfl rfl) ?_; clear H a; intro a H
                refine wpStill_nil (hK16 _ ?_)
                clear hK16 K16
                refine cond_ H rfl (fun hc4 => ?_) (fun hc4 => ?_)
                · skip
                  replace H := H.keep [] rfl
                  refine seq_still (fun K17 hK17 => ?_)
                  refine still_does H rfl (does_assign rfl) ?_; clear H a; intro a H
                  refine still_does H rfl (does_assign rfl) ?_; clear H a; intro a H
                  refine still_does H rfl (does_assign rfl) ?_; clear H a; intro a H
                  refine wpStill_nil (hK17 _ ?_)
                  clear hK17 K17
                  refine wp_ret ?_
                  refine ret3 (fn := Try.f35) rfl H rfl rfl rfl ?_
                  exact ⟨by unfold skewO wholeO; rw [if_neg (by omega), if_neg (by omega), if_neg (by omega)]; (try dsimp only); rw [hak, hW0]; rfl, (S.sel [] rfl rfl)⟩
                · skip
                  simp at hc4
            · skip
              have hW2 : wholeO (⟨(m : Int), bp, bx⟩ : Chain) l (decide ((m : Int) = (m : Int)) && (decide (1 ≤ (ev : Int)) && decide ((ev : Int) ≤ (m : Int)))) = .ok N := by unfold wholeO; rw [if_neg (by omega), hak, if_pos rfl, hW1]
              have hG2 : Good (m + 1) N := (wholeO_good hW2).1; have hB2 : bdd (m + 1) 2199023255552 N := hG2.bdd
              replace H := H.keep [3, 4, 5, 7, 14, 15] rfl
              refine seq_list (fun K18 hK18 => ?_)
              refine list_does H rfl (by first | exact does_loadBox agg_23 sz_23 rfl S (i := 0) rfl rfl | exact does_loadBox agg_23 sz_23 rfl S (i := 1) rfl rfl) ?_; clear H a; intro a H
              refine list_does H rfl (does_move rfl) ?_; clear H a; intro a H
              refine list_call H rfl rfl Try.func68 rfl rfl (ret_imp (ref_buildI m bp bx l B cq _ hkb.1 (by omega) hkb.2.2 (hl.now S)) (fun _ _ => built_some (n := m + 1) hW1)) ?_; clear H a
              rintro _ _ a ⟨W2, cw2, rb2, rc2, rfl, S2⟩ H
              replace S := S.call S2; clear S2
              refine list_does H rfl (does_move rfl) ?_; clear H a; intro a H
              refine list_does H rfl (does_extract rfl rfl) ?_; clear H a; intro a H
              refine list_does H rfl (does_extract rfl rfl) ?_; clear H a; intro a H
              refine list_does H rfl (does_assign rfl) ?_; clear H a; intro a H
              refine list_does H rfl (does_assign rfl) ?_; clear H a; intro a H
              refine hK18 _ _ ?_
              clear hK18 K18
              refine wp_seq_k (fun K19 hK19 => ?_)
              replace H := H.keep [4, 5, 14, 15, 16, 17] rfl
              refine seq_still (fun K20 hK20 => ?_)
              refine still_does H rfl (does_move rfl) ?_; clear H a; intro a H
              refine still_does H rfl (does_not rfl) ?_; clear H a; intro a H
              refine still_does H rfl (does_move rfl) ?_; clear H a; intro a H
              apply still_guard (i := 2) (g := 62) (t := 64) (b := false) 2 H rfl rfl (by kernel_rfl) (by kernel_rfl) rfl rfl
              case h1 =>
                intro hg3
                refine still_yes' H rfl rfl (by assumption) ?_
                refine still_does H rfl (does_move rfl) ?_; intro a H
                refine still_yes' H rfl rfl (by assumption) ?_
                refine still_does H rfl (does_not rfl) ?_; intro a H
                exact wpStill_nil (H.strip 2 rfl rfl)
              case k =>
                clear H a; intro a H
                refine still_does H rfl (by first | exact does_or rfl rfl rfl | exact does_pick rfl rfl rfl) ?_; clear H a; intro a H
                refine wpStill_nil (hK20 _ ?_)
                clear hK20 K20
                refine cond_ H rfl (fun hc5 => ?_) (fun hc5 => ?_)
                · skip
                  replace H := H.keep [] rfl
                  refine seq_still (fun K21 hK21 => ?_)
                  refine still_does H rfl (does_assign rfl) ?_; clear H a; intro a H
                  refine still_does H rfl (does_assign rfl) ?_; clear H a; intro a H
                  refine still_does H rfl (does_assign rfl) ?_; clear H a; intro a H
                  refine wpStill_nil (hK21 _ ?_)
                  clear hK21 K21
                  refine wp_ret ?_
                  refine ret3 (fn := Try.f35) rfl H rfl rfl rfl ?_
                  exact ⟨by unfold skewO wholeO; rw [if_neg (by omega), if_neg (by omega), if_neg (by omega)]; (try dsimp only); rw [hak, hW0]; rfl, (S.sel [] rfl rfl)⟩
                · skip
                  simp at hc5
          · skip
            have hW : wholeO (⟨(m : Int), ap, ax⟩ : Chain) k (decide ((m : Int) = (m : Int)) && (decide (1 ≤ (ev : Int)) && decide ((ev : Int) ≤ (m : Int)))) = .ok M := by unfold wholeO; rw [if_neg (by omega), hak, if_pos rfl, hW0]
            have hG1 : Good (m + 1) M := (wholeO_good hW).1; have hB : bdd (m + 1) 2199023255552 M := hG1.bdd
            replace H := H.keep [1, 3, 4, 5, 7] rfl
            refine seq_list (fun K22 hK22 => ?_)
            refine list_does H rfl (by first | exact does_loadBox agg_23 sz_23 rfl S (i := 0) rfl rfl | exact does_loadBox agg_23 sz_23 rfl S (i := 1) rfl rfl) ?_; clear H a; intro a H
            refine list_does H rfl (does_move rfl) ?_; clear H a; intro a H
            refine list_call H rfl rfl Try.func68 rfl rfl (ret_imp (ref_buildI m ap ax k A cp _ hka.1 (by omega) hka.2.2 (hk.now S)) (fun _ _ => built_some (n := m + 1) hW0)) ?_; clear H a
            rintro _ _ a ⟨W, cw, rb, rc, rfl, S2⟩ H
            replace S := S.call S2; clear S2
            refine list_does H rfl (does_move rfl) ?_; clear H a; intro a H
            refine list_does H rfl (does_extract rfl rfl) ?_; clear H a; intro a H
            refine list_does H rfl (does_extract rfl rfl) ?_; clear H a; intro a H
            refine list_does H rfl (does_assign rfl) ?_; clear H a; intro a H
            refine list_does H rfl (does_assign rfl) ?_; clear H a; intro a H
            refine hK22 _ _ ?_
            clear hK22 K22
            rcases hW1 : weaveW (⟨(m : Int), bp, bx⟩ : Chain) l yes with _ | N
            · skip
              skip
              replace H := H.keep [3, 4, 5, 7, 14, 15] rfl
              refine seq_list (fun K23 hK23 => ?_)
              refine list_does H rfl (by first | exact does_loadBox agg_23 sz_23 rfl S (i := 0) rfl rfl | exact does_loadBox agg_23 sz_23 rfl S (i := 1) rfl rfl | exact does_loadBox agg_23 sz_23 rfl S (i := 2) rfl rfl | exact does_loadBox agg_23 sz_23 rfl S (i := 3) rfl rfl) ?_; clear H a; intro a H
              refine list_does H rfl (does_move rfl) ?_; clear H a; intro a H
              refine list_call H rfl rfl Try.func68 rfl rfl (ret_imp (ref_buildI m bp bx l B cq _ hkb.1 (by omega) hkb.2.2 (hl.now S)) (fun _ _ => built_none hW1)) ?_; clear H a
              rintro _ _ a ⟨W2, cw2, rfl, S2⟩ H
              replace S := S.call S2; clear S2
              refine list_does H rfl (does_move rfl) ?_; clear H a; intro a H
              refine list_does H rfl (does_extract rfl rfl) ?_; clear H a; intro a H
              refine list_does H rfl (does_extract rfl rfl) ?_; clear H a; intro a H
              refine list_does H rfl (does_assign rfl) ?_; clear H a; intro a H
              refine list_does H rfl (does_assign rfl) ?_; clear H a; intro a H
              refine hK23 _ _ ?_
              clear hK23 K23
              refine wp_seq_k (fun K24 hK24 => ?_)
              replace H := H.keep [4, 5, 14, 15, 16, 17] rfl
              refine seq_still (fun K25 hK25 => ?_)
              refine still_does H rfl (does_move rfl) ?_; clear H a; intro a H
              refine still_does H rfl (does_not rfl) ?_; clear H a; intro a H
              refine still_does H rfl (does_move rfl) ?_; clear H a; intro a H
              apply still_guard (i := 2) (g := 62) (t := 64) (b := false) 2 H rfl rfl (by kernel_rfl) (by kernel_rfl) rfl rfl
              case h1 =>
                intro hg3
                refine still_yes' H rfl rfl (by assumption) ?_
                refine still_does H rfl (does_move rfl) ?_; intro a H
                refine still_yes' H rfl rfl (by assumption) ?_
                refine still_does H rfl (does_not rfl) ?_; intro a H
                exact wpStill_nil (H.strip 2 rfl rfl)
              case k =>
                clear H a; intro a H
                refine still_does H rfl (by first | exact does_or rfl rfl rfl | exact does_pick rfl rfl rfl) ?_; clear H a; intro a H
                refine wpStill_nil (hK25 _ ?_)
                clear hK25 K25
                refine cond_ H rfl (fun hc6 => ?_) (fun hc6 => ?_)
                · skip
                  replace H := H.keep [] rfl
                  refine seq_still (fun K26 hK26 => ?_)
                  refine still_does H rfl (does_assign rfl) ?_; clear H a; intro a H
                  refine still_does H rfl (does_assign rfl) ?_; clear H a; intro a H
                  refine still_does H rfl (does_assign rfl) ?_; clear H a; intro a H
                  refine wpStill_nil (hK26 _ ?_)
                  clear hK26 K26
                  refine wp_ret ?_
                  refine ret3 (fn := Try.f35) rfl H rfl rfl rfl ?_
                  exact ⟨by unfold skewO; rw [if_neg (by omega), if_neg (by omega)]; (try dsimp only); rw [hW]; (try dsimp only); unfold wholeO; rw [if_neg (by omega), hak, hW1]; rfl, (S.sel [] rfl rfl)⟩
                · skip
                  simp at hc6
            · skip
              have hW2 : wholeO (⟨(m : Int), bp, bx⟩ : Chain) l (decide ((m : Int) = (m : Int)) && (decide (1 ≤ (ev : Int)) && decide ((ev : Int) ≤ (m : Int)))) = .ok N := by unfold wholeO; rw [if_neg (by omega), hak, if_pos rfl, hW1]
              have hG2 : Good (m + 1) N := (wholeO_good hW2).1; have hB2 : bdd (m + 1) 2199023255552 N := hG2.bdd
              replace H := H.keep [3, 4, 5, 7, 14, 15] rfl
              refine seq_list (fun K27 hK27 => ?_)
              refine list_does H rfl (by first | exact does_loadBox agg_23 sz_23 rfl S (i := 0) rfl rfl | exact does_loadBox agg_23 sz_23 rfl S (i := 1) rfl rfl | exact does_loadBox agg_23 sz_23 rfl S (i := 2) rfl rfl | exact does_loadBox agg_23 sz_23 rfl S (i := 3) rfl rfl) ?_; clear H a; intro a H
              refine list_does H rfl (does_move rfl) ?_; clear H a; intro a H
              refine list_call H rfl rfl Try.func68 rfl rfl (ret_imp (ref_buildI m bp bx l B cq _ hkb.1 (by omega) hkb.2.2 (hl.now S)) (fun _ _ => built_some (n := m + 1) hW1)) ?_; clear H a
              rintro _ _ a ⟨W2, cw2, rb2, rc2, rfl, S2⟩ H
              replace S := S.call S2; clear S2
              refine list_does H rfl (does_move rfl) ?_; clear H a; intro a H
              refine list_does H rfl (does_extract rfl rfl) ?_; clear H a; intro a H
              refine list_does H rfl (does_extract rfl rfl) ?_; clear H a; intro a H
              refine list_does H rfl (does_assign rfl) ?_; clear H a; intro a H
              refine list_does H rfl (does_assign rfl) ?_; clear H a; intro a H
              refine hK27 _ _ ?_
              clear hK27 K27
              refine wp_seq_k (fun K28 hK28 => ?_)
              replace H := H.keep [4, 5, 14, 15, 16, 17] rfl
              refine seq_still (fun K29 hK29 => ?_)
              refine still_does H rfl (does_move rfl) ?_; clear H a; intro a H
              refine still_does H rfl (does_not rfl) ?_; clear H a; intro a H
              refine still_does H rfl (does_move rfl) ?_; clear H a; intro a H
              apply still_guard (i := 2) (g := 62) (t := 64) (b := false) 2 H rfl rfl (by kernel_rfl) (by kernel_rfl) rfl rfl
              case h1 =>
                intro hg3
                refine still_yes' H rfl rfl (by assumption) ?_
                refine still_does H rfl (does_move rfl) ?_; intro a H
                refine still_yes' H rfl rfl (by assumption) ?_
                refine still_does H rfl (does_not rfl) ?_; intro a H
                exact wpStill_nil (H.strip 2 rfl rfl)
              case k =>
                clear H a; intro a H
                refine still_does H rfl (by first | exact does_or rfl rfl rfl | exact does_pick rfl rfl rfl) ?_; clear H a; intro a H
                refine wpStill_nil (hK29 _ ?_)
                clear hK29 K29
                refine cond_ H rfl (fun hc7 => ?_) (fun hc7 => ?_)
                · skip
                  simp at hc7
                · skip
                  refine wp_skip ?_
                  refine hK28 _ _ ?_
                  replace H := H.keep [4, 5, 14, 16] rfl
                  refine seq_still (fun K30 hK30 => ?_)
                  refine still_does H rfl (does_assign rfl) ?_; clear H a; intro a H
                  refine still_does H rfl (does_assign rfl) ?_; clear H a; intro a H
                  refine wpStill_nil (hK30 _ ?_)
                  clear hK30 K30
                  refine wp_seq_k (fun K31 hK31 => ?_)
                  replace H := H.keep [4, 5, 14, 16, 18, 19] rfl
                  refine seq_still (fun K32 hK32 => ?_)
                  refine still_does H rfl (does_move rfl) ?_; clear H a; intro a H
                  refine still_does H rfl (does_assign rfl) ?_; clear H a; intro a H
                  refine wpStill_nil (hK32 _ ?_)
                  clear hK32 K32
                  refine wp_block ?_
                  refine loop_st (X := Nat × Nat × Int × Int) (R0 := _) [4, 5, 14, 16] H rfl (fun ⟨q, e, at_, mo⟩ => [(18, .int .i64 at_), (19, .int .i64 mo), (20, .int .i64 (e : Int))]) (fun ⟨q, e, at_, mo⟩ => []) (fun g ⟨q, e, at_, mo⟩ => e = (q + 1) * ev ∧ q * ev ≤ m ∧ skR M N ev q = (at_, mo) ∧ g + e = m + ev) (m) (0, ev, 0, -1) ?_ (S.sel [0, 1, 2, 3, 4, 5] rfl rfl) (H.keep [18, 19, 20, 4, 5, 14, 16] rfl) ?_
                  · exact ⟨by omega, by omega, rfl, by omega⟩
                  · intro g1 x1 a w1 hp S H K33 hK33
                    obtain ⟨q, e, at_, mo⟩ := x1
                    dsimp only at hp S H
                    have hat : q = 0 → mo = -1 := by
                      intro h0; subst h0; have h9 := hp.2.2.1; cases h9; rfl
                    have hst : q ≠ 0 → skTo M N ev q = (at_, mo) := fun h0 => by have h9 := hp.2.2.1; unfold skR at h9; rw [if_neg h0] at h9; exact h9
                    refine wp_seq_k (fun K34 hK34 => ?_)
                    replace H := H.keep [4, 5, 14, 16, 18, 19, 20] rfl
                    refine seq_still (fun K35 hK35 => ?_)
                    refine still_does H rfl (does_move rfl) ?_; clear H a; intro a H
                    refine still_does H rfl (by first | exact does_field_pt fo_23_0 rfl | exact does_field fo_23_0 rfl) ?_; clear H a; intro a H
                    refine still_does H rfl (does_load one_3 rfl (by first | exact boxM.rd S (i := 0) rfl rfl | exact boxM.rd S (i := 1) rfl rfl | exact boxM.rd S (i := 2) rfl rfl | exact boxM.rd S (i := 3) rfl rfl | exact boxM.rd S (i := 4) rfl rfl | exact boxM.rd S (i := 5) rfl rfl)) ?_; clear H a; intro a H
                    refine still_does H rfl (does_leq rfl rfl) ?_; clear H a; intro a H
                    refine wpStill_nil (hK35 _ ?_)
                    clear hK35 K35
                    refine cond_ H rfl (fun hc8 => ?_) (fun hc8 => ?_)
                    · try simp only [Bool.or_eq_true, Bool.and_eq_true, Bool.not_eq_true', Bool.or_eq_false_iff, Bool.and_eq_false_iff, Bool.not_eq_false', decide_eq_true_eq, decide_eq_false_iff_not, Int.not_lt, Int.not_le] at hc8
                      refine wp_skip ?_
                      refine hK34 _ _ ?_
                      refine wp_seq_k (fun K36 hK36 => ?_)
                      refine wp_block ?_
                      replace H := H.keep [4, 5, 14, 16, 18, 19, 20] rfl
                      refine seq_list (fun K37 hK37 => ?_)
                      refine list_does H rfl (does_move rfl) ?_; clear H a; intro a H
                      refine list_does H rfl (does_move rfl) ?_; clear H a; intro a H
                      have S1 := (S.sel [2, 3] rfl rfl)
                      refine list_call H rfl rfl Try.func66 rfl rfl (net_run (m + 1) cw W rb rc M 0 e _ _ S1.startR (by omega) (by omega) (fun x y hx hy => by have := hB x y hx hy; omega)) ?_; clear H a
                      rintro _ _ a ⟨rfl, S2⟩ H
                      replace S := (S.sel [2, 3, 0, 1, 4, 5] rfl rfl).callR (M := [_, _]) S2; clear S1 S2
                      refine list_does H rfl (does_move rfl) ?_; clear H a; intro a H
                      refine list_does H rfl (does_move rfl) ?_; clear H a; intro a H
                      have S1 := (S.sel [2, 3] rfl rfl)
                      refine list_call H rfl rfl Try.func66 rfl rfl (net_run (m + 1) cw2 W2 rb2 rc2 N 0 e _ _ S1.startR (by omega) (by omega) (fun x y hx hy => by have := hB2 x y hx hy; omega)) ?_; clear H a
                      rintro _ _ a ⟨rfl, S2⟩ H
                      replace S := (S.sel [2, 3, 0, 1, 4, 5] rfl rfl).callR (M := [_, _]) S2; clear S1 S2
                      refine list_alloc H rfl S ze_42 ?_; clear H a S; intro b21 _ a hb21 hbw21 S H
                      refine list_alloc H rfl S ze_42 ?_; clear H a S; intro b22 _ a hb22 hbw22 S H
                      first | (refine list_store H S (i := 0) rfl rfl rfl rfl sz_42 rfl rfl ?_) | (refine list_store H S (i := 1) rfl rfl rfl rfl sz_42 rfl rfl ?_) | (refine list_store H S (i := 2) rfl rfl rfl rfl sz_42 rfl rfl ?_) | (refine list_store H S (i := 3) rfl rfl rfl rfl sz_42 rfl rfl ?_) | (refine list_store H S (i := 4) rfl rfl rfl rfl sz_42 rfl rfl ?_) | (refine list_store H S (i := 5) rfl rfl rfl rfl sz_42 rfl rfl ?_) | (refine list_store H S (i := 6) rfl rfl rfl rfl sz_42 rfl rfl ?_) | (refine list_store H S (i := 7) rfl rfl rfl rfl sz_42 rfl rfl ?_) | (refine list_store_own H S (i := 0) rfl rfl rfl (by omega) (by omega) sz_42 rfl ?_) | (refine list_store_own H S (i := 1) rfl rfl rfl (by omega) (by omega) sz_42 rfl ?_) | (refine list_store_own H S (i := 2) rfl rfl rfl (by omega) (by omega) sz_42 rfl ?_) | (refine list_store_own H S (i := 3) rfl rfl rfl (by omega) (by omega) sz_42 rfl ?_) | (refine list_store_own H S (i := 4) rfl rfl rfl (by omega) (by omega) sz_42 rfl ?_) | (refine list_store_own H S (i := 5) rfl rfl rfl (by omega) (by omega) sz_42 rfl ?_) | (refine list_store_own H S (i := 6) rfl rfl rfl (by omega) (by omega) sz_42 rfl ?_) | (refine list_store_own H S (i := 7) rfl rfl rfl (by omega) (by omega) sz_42 rfl ?_)
                      clear H a S; intro _ a S H
                      first | (refine list_store H S (i := 0) rfl rfl rfl rfl sz_42 rfl rfl ?_) | (refine list_store H S (i := 1) rfl rfl rfl rfl sz_42 rfl rfl ?_) | (refine list_store H S (i := 2) rfl rfl rfl rfl sz_42 rfl rfl ?_) | (refine list_store H S (i := 3) rfl rfl rfl rfl sz_42 rfl rfl ?_) | (refine list_store H S (i := 4) rfl rfl rfl rfl sz_42 rfl rfl ?_) | (refine list_store H S (i := 5) rfl rfl rfl rfl sz_42 rfl rfl ?_) | (refine list_store H S (i := 6) rfl rfl rfl rfl sz_42 rfl rfl ?_) | (refine list_store H S (i := 7) rfl rfl rfl rfl sz_42 rfl rfl ?_) | (refine list_store_own H S (i := 0) rfl rfl rfl (by omega) (by omega) sz_42 rfl ?_) | (refine list_store_own H S (i := 1) rfl rfl rfl (by omega) (by omega) sz_42 rfl ?_) | (refine list_store_own H S (i := 2) rfl rfl rfl (by omega) (by omega) sz_42 rfl ?_) | (refine list_store_own H S (i := 3) rfl rfl rfl (by omega) (by omega) sz_42 rfl ?_) | (refine list_store_own H S (i := 4) rfl rfl rfl (by omega) (by omega) sz_42 rfl ?_) | (refine list_store_own H S (i := 5) rfl rfl rfl (by omega) (by omega) sz_42 rfl ?_) | (refine list_store_own H S (i := 6) rfl rfl rfl (by omega) (by omega) sz_42 rfl ?_) | (refine list_store_own H S (i := 7) rfl rfl rfl (by omega) (by omega) sz_42 rfl ?_)
                      clear H a S; intro _ a S H
                      refine hK37 _ _ ?_
                      clear hK37 K37
                      have hb1 := hB 0 e (by omega) (by omega); have hb2 := hB e 0 (by omega) (by omega); have hb3 := hB2 0 e (by omega) (by omega); have hb4 := hB2 e 0 (by omega) (by omega)
                      replace H := H.keep [4, 5, 14, 16, 18, 19, 20, 21, 22] rfl
                      refine seq_still (fun K38 hK38 => ?_)
                      refine still_does H rfl (by first | exact does_field_pt fo_42_1 rfl | exact does_field fo_42_1 rfl) ?_; clear H a; intro a H
                      refine still_does H rfl (does_load one_3 rfl (by first | exact boxM.rd S (i := 0) rfl rfl | exact boxM.rd S (i := 1) rfl rfl | exact boxM.rd S (i := 2) rfl rfl | exact boxM.rd S (i := 3) rfl rfl | exact boxM.rd S (i := 4) rfl rfl | exact boxM.rd S (i := 5) rfl rfl | exact boxM.rd S (i := 6) rfl rfl | exact boxM.rd S (i := 7) rfl rfl)) ?_; clear H a; intro a H
                      refine still_does H rfl (by first | exact does_field_pt fo_42_0 rfl | exact does_field fo_42_0 rfl) ?_; clear H a; intro a H
                      refine still_does H rfl (does_load one_3 rfl (by first | exact boxM.rd S (i := 0) rfl rfl | exact boxM.rd S (i := 1) rfl rfl | exact boxM.rd S (i := 2) rfl rfl | exact boxM.rd S (i := 3) rfl rfl | exact boxM.rd S (i := 4) rfl rfl | exact boxM.rd S (i := 5) rfl rfl | exact boxM.rd S (i := 6) rfl rfl | exact boxM.rd S (i := 7) rfl rfl)) ?_; clear H a; intro a H
                      refine still_does H rfl (does_sub rfl rfl (by unfold i64ok; omega)) ?_; clear H a; intro a H
                      refine still_does H rfl (by first | exact does_field_pt fo_42_1 rfl | exact does_field fo_42_1 rfl) ?_; clear H a; intro a H
                      refine still_does H rfl (does_load one_3 rfl (by first | exact boxM.rd S (i := 0) rfl rfl | exact boxM.rd S (i := 1) rfl rfl | exact boxM.rd S (i := 2) rfl rfl | exact boxM.rd S (i := 3) rfl rfl | exact boxM.rd S (i := 4) rfl rfl | exact boxM.rd S (i := 5) rfl rfl | exact boxM.rd S (i := 6) rfl rfl | exact boxM.rd S (i := 7) rfl rfl)) ?_; clear H a; intro a H
                      refine still_does H rfl (by first | exact does_field_pt fo_42_0 rfl | exact does_field fo_42_0 rfl) ?_; clear H a; intro a H
                      refine still_does H rfl (does_load one_3 rfl (by first | exact boxM.rd S (i := 0) rfl rfl | exact boxM.rd S (i := 1) rfl rfl | exact boxM.rd S (i := 2) rfl rfl | exact boxM.rd S (i := 3) rfl rfl | exact boxM.rd S (i := 4) rfl rfl | exact boxM.rd S (i := 5) rfl rfl | exact boxM.rd S (i := 6) rfl rfl | exact boxM.rd S (i := 7) rfl rfl)) ?_; clear H a; intro a H
                      refine still_does H rfl (does_sub rfl rfl (by unfold i64ok; omega)) ?_; clear H a; intro a H
                      refine still_does H rfl (does_max rfl rfl) ?_; clear H a; intro a H
                      refine still_does H rfl (does_assign rfl) ?_; clear H a; intro a H
                      refine wpStill_nil (hK38 _ ?_)
                      clear hK38 K38
                      replace H := H.keep [4, 5, 14, 16, 18, 19, 20, 23] rfl
                      refine seq_still (fun K39 hK39 => ?_)
                      refine still_does H rfl (does_move rfl) ?_; clear H a; intro a H
                      refine still_does H rfl (does_move rfl) ?_; clear H a; intro a H
                      refine still_does H rfl (does_gtr rfl rfl) ?_; clear H a; intro a H
                      refine wpStill_nil (hK39 _ ?_)
                      clear hK39 K39
                      refine cond_ H rfl (fun hc9 => ?_) (fun hc9 => ?_)
                      · try simp only [Bool.or_eq_true, Bool.and_eq_true, Bool.not_eq_true', Bool.or_eq_false_iff, Bool.and_eq_false_iff, Bool.not_eq_false', decide_eq_true_eq, decide_eq_false_iff_not, Int.not_lt, Int.not_le] at hc9
                        replace H := H.keep [4, 5, 14, 16, 20, 23] rfl
                        refine seq_still (fun K40 hK40 => ?_)
                        refine still_does H rfl (does_move rfl) ?_; clear H a; intro a H
                        refine still_does H rfl (does_assign rfl) ?_; clear H a; intro a H
                        refine wpStill_nil (hK40 _ ?_)
                        clear hK40 K40
                        replace H := H.keep [4, 5, 14, 16, 19, 20] rfl
                        refine one_still ?_
                        refine still_does H rfl (does_move rfl) ?_; clear H a; intro a H
                        refine still_does H rfl (does_assign rfl) ?_; clear H a; intro a H
                        refine wpStill_nil ?_
                        refine hK36 _ _ ?_
                        replace H := H.keep [4, 5, 14, 16, 18, 19, 20] rfl
                        refine one_still ?_
                        refine still_does H rfl (does_move rfl) ?_; clear H a; intro a H
                        refine still_does H rfl (does_move rfl) ?_; clear H a; intro a H
                        refine still_does H rfl (does_add rfl rfl (by unfold i64ok; omega)) ?_; clear H a; intro a H
                        refine still_does H rfl (does_assign rfl) ?_; clear H a; intro a H
                        refine wpStill_nil ?_
                        exact hK33 (g1 - ev) (q + 1, e + ev, _, _) a _ (by omega) (⟨by rw [hp.1]; exact (Nat.succ_mul _ _).symm, by rw [← hp.1]; omega, by
                          have h0 := skD_pos (e := e) hG1 hG2 (by omega)
                          unfold skR; rw [if_neg (by omega), skTo, ← hp.1]
                          by_cases hq : q = 0
                          · have := hat hq; unfold skD at h0; first | (exfalso; omega) | (rw [if_pos (.inl hq)]; rfl)
                          · rw [hst hq]; first | rw [if_pos (by unfold skD; (try dsimp only); omega)]; rfl | rw [if_neg (by unfold skD; (try dsimp only); omega)], by omega⟩) (S.sel [2, 3, 4, 5, 6, 7] rfl rfl) (H.keep [18, 19, 20, 4, 5, 14, 16] rfl)
                      · try simp only [Bool.or_eq_true, Bool.and_eq_true, Bool.not_eq_true', Bool.or_eq_false_iff, Bool.and_eq_false_iff, Bool.not_eq_false', decide_eq_true_eq, decide_eq_false_iff_not, Int.not_lt, Int.not_le] at hc9
                        refine wp_skip ?_
                        refine hK36 _ _ ?_
                        replace H := H.keep [4, 5, 14, 16, 18, 19, 20] rfl
                        refine one_still ?_
                        refine still_does H rfl (does_move rfl) ?_; clear H a; intro a H
                        refine still_does H rfl (does_move rfl) ?_; clear H a; intro a H
                        refine still_does H rfl (does_add rfl rfl (by unfold i64ok; omega)) ?_; clear H a; intro a H
                        refine still_does H rfl (does_assign rfl) ?_; clear H a; intro a H
                        refine wpStill_nil ?_
                        exact hK33 (g1 - ev) (q + 1, e + ev, _, _) a _ (by omega) (⟨by rw [hp.1]; exact (Nat.succ_mul _ _).symm, by rw [← hp.1]; omega, by
                          have h0 := skD_pos (e := e) hG1 hG2 (by omega)
                          unfold skR; rw [if_neg (by omega), skTo, ← hp.1]
                          by_cases hq : q = 0
                          · have := hat hq; unfold skD at h0; first | (exfalso; omega) | (rw [if_pos (.inl hq)]; rfl)
                          · rw [hst hq]; first | rw [if_pos (by unfold skD; (try dsimp only); omega)]; rfl | rw [if_neg (by unfold skD; (try dsimp only); omega)], by omega⟩) (S.sel [2, 3, 4, 5, 6, 7] rfl rfl) (H.keep [18, 19, 20, 4, 5, 14, 16] rfl)
                    · try simp only [Bool.or_eq_true, Bool.and_eq_true, Bool.not_eq_true', Bool.or_eq_false_iff, Bool.and_eq_false_iff, Bool.not_eq_false', decide_eq_true_eq, decide_eq_false_iff_not, Int.not_lt, Int.not_le] at hc8
                      refine wp_exit ?_
                      refine hK31 _ _ ?_
                      replace H := H.keep [18, 19] rfl
                      refine seq_still (fun K44 hK44 => ?_)
                      refine still_does H rfl (does_move rfl) ?_; clear H a; intro a H
                      refine still_does H rfl (does_move rfl) ?_; clear H a; intro a H
                      refine still_does H rfl (does_assign rfl) ?_; clear H a; intro a H
                      refine still_does H rfl (does_assign rfl) ?_; clear H a; intro a H
                      refine still_does H rfl (does_assign rfl) ?_; clear H a; intro a H
                      refine wpStill_nil (hK44 _ ?_)
                      clear hK44 K44
                      refine wp_ret ?_
                      refine ret3 (fn := Try.f35) rfl H rfl rfl rfl ?_
                      have hq0 : q ≠ 0 := by
                        intro h0; subst h0; have := hp.1; omega
                      have h8 : skewO (⟨(m : Int), ap, ax⟩ : Chain) k (⟨(m : Int), bp, bx⟩ : Chain) l (ev : Int) = (at_, mo, 0) := by
                        have hq : m / ev = q := Nat.div_eq_of_lt_le hp.2.1 (by rw [← hp.1]; omega)
                        unfold skewO; rw [if_neg (by omega), if_neg (by omega)]; show (match wholeO (⟨(m : Int), ap, ax⟩ : Chain) k (decide ((m : Int) = (m : Int)) && (decide (1 ≤ (ev : Int)) && decide ((ev : Int) ≤ (m : Int)))) with | .error e => (0, 0, e) | .ok M => (match wholeO (⟨(m : Int), bp, bx⟩ : Chain) l (decide ((m : Int) = (m : Int)) && (decide (1 ≤ (ev : Int)) && decide ((ev : Int) ≤ (m : Int)))) with | .error e => (0, 0, e) | .ok N => ((skTo M N ((ev : Nat) : Int).toNat (((m : Nat) : Int).toNat / ((ev : Nat) : Int).toNat)).1, (skTo M N ((ev : Nat) : Int).toNat (((m : Nat) : Int).toNat / ((ev : Nat) : Int).toNat)).2, (0 : Int)))) = _
                        rw [hW, hW2]; show ((skTo M N ev (m / ev)).1, (skTo M N ev (m / ev)).2, (0 : Int)) = _; rw [hq]; rw [hst hq0]
                      rw [h8]; exact ⟨rfl, (S.sel [] rfl rfl)⟩

end Go.Proofs.Ytlejjfhgfajoiaa
