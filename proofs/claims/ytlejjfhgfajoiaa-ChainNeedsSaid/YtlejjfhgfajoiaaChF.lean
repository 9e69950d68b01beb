/- ChF. Printed by gen.py. -/
import Derived.Test.YtlejjfhgfajoiaaChE
namespace Go.Proofs.Ytlejjfhgfajoiaa
open Go.RowKit
set_option linter.unusedVariables false
set_option linter.unusedSimpArgs false


/-- Run: the ends, and the error. -/
def runO (c : Chain) (l : List Gauge) (a b : Int) : Int × Int × Int := match wholeO c l (isRunB c a b) with
  | .error e => (0, 0, e)
  | .ok M => (-(M b.toNat a.toNat), M a.toNat b.toNat, 0)
def runV (r : Int × Int × Int) : Value := .tuple #[.agg [.int .i64 r.1, .int .i64 r.2.1].toArray, .int .i64 r.2.2]
def sp2 (lo hi : Nat → Int) (k j : Nat) : Value := if j = 0 then .int .i64 (lo k) else .int .i64 (hi k)
theorem capp_one {k sz : Nat} {cell : Nat → Nat → Value} {vs : List Value} (h : ∀ j, j < sz → vs.getD j undef = cell k j) : ∀ q j, q < k + 1 → j < sz → capp k cell (fun k' j => ([vs].getD k' []).getD j undef) q j = cell q j := by
  intro q j hq hj
  unfold capp
  by_cases h1 : q < k
  · rw [if_pos h1]
  · rw [if_neg h1]
    have e : q = k := by omega
    subst e
    rw [Nat.sub_self]
    exact h j hj
theorem one_vs {sz : Nat} {vs : List Value} (h : ∀ j, j < sz → (vs.getD j undef).oneCell' = true) : ∀ k j, k < 1 → j < sz → (([vs].getD k []).getD j undef).oneCell' = true := by
  intro k j hk hj
  have e : k = 0 := by omega
  subst e
  exact h j hj
theorem two {p : Nat → Prop} (h0 : p 0) (h1 : p 1) : ∀ j, j < 2 → p j := by
  intro j hj
  have : j = 0 ∨ j = 1 := by omega
  rcases this with rfl | rfl
  · exact h0
  · exact h1
theorem one {p : Nat → Prop} (h0 : p 0) : ∀ j, j < 1 → p j := by
  intro j hj
  have : j = 0 := by omega
  subst this
  exact h0
def longTo (M : IM) (many : Nat) : Nat → Int × Int
  | 0 => (0, 0)
  | k + 1 => if k = 0 ∨ (longTo M many k).2 < M k (k + many) then ((k : Int), M k (k + many)) else longTo M many k
def longO (c : Chain) (l : List Gauge) (many : Int) : Int × Int × Int := match wholeO c l (decide (1 ≤ many) && decide (many ≤ c.links)) with
  | .error e => (0, 0, e)
  | .ok M => ((longTo M many.toNat (c.links.toNat + 1 - many.toNat)).1, (longTo M many.toNat (c.links.toNat + 1 - many.toNat)).2, 0)
/-- Links. -/
def linksO (c : Chain) (l : List Gauge) : Except Int IM := wholeO c l true


set_option maxRecDepth 100000 in
set_option maxHeartbeats 1000000 in
theorem chain_Run (links pitch limit : Int) (l : List Gauge) (A : Option Addr) (cp : Nat) (xa xb : Int) (w : World) (hl : InS w noF 4 A l.length (gcell l)) (hn : l.length ≤ 9223372036854775807) :
    Calls Try.prog 28 [.agg [.int .i64 links, .int .i64 pitch, .int .i64 limit].toArray, .slice A l.length cp, .int .i64 xa, .int .i64 xb].toArray w (Ret (fun v w' => v = runV (runO (⟨links, pitch, limit⟩ : Chain) l xa xb) ∧ St w noF [] w')) := by
  refine enter Try.func28 rfl Try.ntmps28 rfl (fun a H => ?_)
  have S := St.start w
  refine seq_list (fun K1 hK1 => ?_)
  refine list_box H rfl S rfl rfl ?_; clear H a S; intro b4 _ a hb4 hbw4 S H
  refine list_alloc H rfl S ze_42 ?_; clear H a S; intro b8 _ a hb8 hbw8 S H
  refine list_does H rfl (does_assign rfl) ?_; clear H a; intro a H
  refine hK1 _ _ ?_
  clear hK1 K1
  rcases hW : wholeO (⟨links, pitch, limit⟩ : Chain) l (isRunB (⟨links, pitch, limit⟩ : Chain) xa xb) with e | M
  · skip
    have he := wholeO_err hW
    replace H := H.keep [1, 2, 3, 4, 8] rfl
    replace S := S.drew
    refine seq_wq [(0, true), (1, true), (2, true), (3, true), (4, true), (5, false), (6, false), (7, true), (8, true), (9, true), (10, true), (11, true)] (by kernel_rfl) (by kernel_rfl) (S.sel [0, 1] rfl rfl) (fun K2 hK2 => ?_)
    refine wq_does H rfl rfl (fun _ S => by first | exact does_loadBox agg_23 sz_23 rfl S (i := 0) rfl rfl | exact does_loadBox agg_23 sz_23 rfl S (i := 1) rfl rfl) ?_; clear H a; intro a H
    refine wq_does H rfl rfl (fun _ S => does_move rfl) ?_; clear H a; intro a H
    refine wq_does H rfl rfl (fun _ S => by first | exact does_loadBox agg_23 sz_23 rfl S (i := 0) rfl rfl | exact does_loadBox agg_23 sz_23 rfl S (i := 1) rfl rfl) ?_; clear H a; intro a H
    refine wq_does H rfl rfl (fun _ S => does_move rfl) ?_; clear H a; intro a H
    refine wq_does H rfl rfl (fun _ S => does_move rfl) ?_; clear H a; intro a H
    refine wq_eff rfl ?_
    refine list_call H rfl rfl Try.func61 rfl rfl (chain_isRun links pitch limit xa xb _) ?_; clear H a
    rintro _ _ a ⟨rfl, S2⟩ H
    replace S := S.call S2; clear S2
    refine wpList_nil (And.intro (S.sel [0, 1] rfl rfl) ?_)
    refine wq_eff rfl ?_
    refine list_call H rfl rfl Try.func60 rfl rfl (ret_imp (chain_whole links pitch limit l A cp (isRunB (⟨links, pitch, limit⟩ : Chain) xa xb) _ (hl.now S) hn) (fun _ _ => whole_err hW)) ?_; clear H a
    rintro _ _ a ⟨rfl, S2⟩ H
    replace S := S.call S2; clear S2
    refine wpList_nil (And.intro (S.sel [0, 1] rfl rfl) ?_)
    refine wq_does H rfl rfl (fun _ S => does_move rfl) ?_; clear H a; intro a H
    refine wq_does H rfl rfl (fun _ S => does_extract rfl rfl) ?_; clear H a; intro a H
    refine wq_does H rfl rfl (fun _ S => does_extract rfl rfl) ?_; clear H a; intro a H
    refine wq_does H rfl rfl (fun _ S => does_assign rfl) ?_; clear H a; intro a H
    refine wq_does H rfl rfl (fun _ S => does_assign rfl) ?_; clear H a; intro a H
    refine wq_nil ?_
    refine hK2 _ _ ?_
    clear hK2 K2
    refine wp_seq_k (fun K3 hK3 => ?_)
    replace H := H.keep [2, 3, 8, 10, 11] rfl
    refine seq_still (fun K4 hK4 => ?_)
    refine still_does H rfl (does_move rfl) ?_; clear H a; intro a H
    refine still_does H rfl (does_neq rfl rfl) ?_; clear H a; intro a H
    refine wpStill_nil (hK4 _ ?_)
    clear hK4 K4
    refine cond_ H rfl (fun hc1 => ?_) (fun hc1 => ?_)
    · try simp only [Bool.or_eq_true, Bool.and_eq_true, Bool.not_eq_true', Bool.or_eq_false_iff, Bool.and_eq_false_iff, Bool.not_eq_false', decide_eq_true_eq, decide_eq_false_iff_not, Int.not_lt, Int.not_le] at hc1
      replace H := H.keep [8, 11] rfl
      refine seq_list (fun K5 hK5 => ?_)
      refine list_does H rfl (does_build bt_42 rfl rfl) ?_; clear H a; intro a H
      refine list_does H rfl (does_move rfl) ?_; clear H a; intro a H
      first | (refine list_store H S (i := 0) rfl rfl rfl rfl sz_42 rfl rfl ?_) | (refine list_store H S (i := 1) rfl rfl rfl rfl sz_42 rfl rfl ?_) | (refine list_store_own H S (i := 0) rfl rfl rfl (by omega) (by omega) sz_42 rfl ?_) | (refine list_store_own H S (i := 1) rfl rfl rfl (by omega) (by omega) sz_42 rfl ?_)
      clear H a S; intro _ a S H
      refine list_does H rfl (does_assign rfl) ?_; clear H a; intro a H
      refine hK5 _ _ ?_
      clear hK5 K5
      refine wp_ret ?_
      refine retA1 (fn := Try.f28) rfl H rfl agg_42 (by exact sz_42) (boxAgg S (i := 0) rfl) rfl ?_
      exact ⟨by unfold runO; rw [hW]; rfl, (S.sel [] rfl rfl)⟩
    · try simp only [Bool.or_eq_true, Bool.and_eq_true, Bool.not_eq_true', Bool.or_eq_false_iff, Bool.and_eq_false_iff, Bool.not_eq_false', decide_eq_true_eq, decide_eq_false_iff_not, Int.not_lt, Int.not_le] at hc1
      all_goals (exfalso; omega)
  · skip
    have hG := wholeO_good hW; have hC := hG.2; unfold chainOk at hC; simp only [decide_eq_true_eq] at hC
    obtain ⟨m, rfl⟩ := Int.eq_ofNat_of_zero_le (show 0 ≤ links by omega)
    have hG1 : Good (m + 1) M := hG.1; have hB : bdd (m + 1) 2199023255552 M := hG1.bdd; have hW1 := wholeO_ok hW
    have hAB := hW1.2.1; unfold isRunB at hAB; simp only [Bool.and_eq_true, decide_eq_true_eq] at hAB; obtain ⟨x1, rfl⟩ := Int.eq_ofNat_of_zero_le hAB.1.1; obtain ⟨x2, rfl⟩ := Int.eq_ofNat_of_zero_le (show 0 ≤ xb by omega)
    have hbig : bdd (m + 1) 4611686018427387904 M := fun x y hx hy => by have := hB x y hx hy; omega
    replace H := H.keep [1, 2, 3, 4, 8] rfl
    replace S := S.drew
    refine seq_wq [(0, true), (1, true), (2, true), (3, true), (4, true), (5, false), (6, false), (7, true), (8, true), (9, true), (10, true), (11, true)] (by kernel_rfl) (by kernel_rfl) (S.sel [0, 1] rfl rfl) (fun K6 hK6 => ?_)
    refine wq_does H rfl rfl (fun _ S => by first | exact does_loadBox agg_23 sz_23 rfl S (i := 0) rfl rfl | exact does_loadBox agg_23 sz_23 rfl S (i := 1) rfl rfl) ?_; clear H a; intro a H
    refine wq_does H rfl rfl (fun _ S => does_move rfl) ?_; clear H a; intro a H
    refine wq_does H rfl rfl (fun _ S => by first | exact does_loadBox agg_23 sz_23 rfl S (i := 0) rfl rfl | exact does_loadBox agg_23 sz_23 rfl S (i := 1) rfl rfl) ?_; clear H a; intro a H
    refine wq_does H rfl rfl (fun _ S => does_move rfl) ?_; clear H a; intro a H
    refine wq_does H rfl rfl (fun _ S => does_move rfl) ?_; clear H a; intro a H
    refine wq_eff rfl ?_
    refine list_call H rfl rfl Try.func61 rfl rfl (chain_isRun m pitch limit x1 x2 _) ?_; clear H a
    rintro _ _ a ⟨rfl, S2⟩ H
    replace S := S.call S2; clear S2
    refine wpList_nil (And.intro (S.sel [0, 1] rfl rfl) ?_)
    refine wq_eff rfl ?_
    refine list_call H rfl rfl Try.func60 rfl rfl (ret_imp (chain_whole m pitch limit l A cp (isRunB ⟨m, pitch, limit⟩ x1 x2) _ (hl.now S) hn) (fun _ _ => whole_ok (n := m + 1) hW)) ?_; clear H a
    rintro _ _ a ⟨W, rb, rc, rfl, S2⟩ H
    replace S := S.call S2; clear S2
    refine wpList_nil (And.intro (S.sel [2, 3] rfl rfl) ?_)
    refine wq_does H rfl rfl (fun _ S => does_move rfl) ?_; clear H a; intro a H
    refine wq_does H rfl rfl (fun _ S => does_extract rfl rfl) ?_; clear H a; intro a H
    refine wq_does H rfl rfl (fun _ S => does_extract rfl rfl) ?_; clear H a; intro a H
    refine wq_does H rfl rfl (fun _ S => does_assign rfl) ?_; clear H a; intro a H
    refine wq_does H rfl rfl (fun _ S => does_assign rfl) ?_; clear H a; intro a H
    refine wq_nil ?_
    refine hK6 _ _ ?_
    clear hK6 K6
    refine wp_seq_k (fun K7 hK7 => ?_)
    replace H := H.keep [2, 3, 8, 10, 11] rfl
    refine seq_still (fun K8 hK8 => ?_)
    refine still_does H rfl (does_move rfl) ?_; clear H a; intro a H
    refine still_does H rfl (does_neq rfl rfl) ?_; clear H a; intro a H
    refine wpStill_nil (hK8 _ ?_)
    clear hK8 K8
    refine cond_ H rfl (fun hc2 => ?_) (fun hc2 => ?_)
    · try simp only [Bool.or_eq_true, Bool.and_eq_true, Bool.not_eq_true', Bool.or_eq_false_iff, Bool.and_eq_false_iff, Bool.not_eq_false', decide_eq_true_eq, decide_eq_false_iff_not, Int.not_lt, Int.not_le] at hc2
      all_goals first | (exfalso; omega) | (simp at hc2)
    · try simp only [Bool.or_eq_true, Bool.and_eq_true, Bool.not_eq_true', Bool.or_eq_false_iff, Bool.and_eq_false_iff, Bool.not_eq_false', decide_eq_true_eq, decide_eq_false_iff_not, Int.not_lt, Int.not_le] at hc2
      refine wp_skip ?_
      refine hK7 _ _ ?_
      replace H := H.keep [2, 3, 8, 10] rfl
      refine seq_list (fun K9 hK9 => ?_)
      refine list_does H rfl (does_move rfl) ?_; clear H a; intro a H
      refine list_does H rfl (does_move rfl) ?_; clear H a; intro a H
      refine list_does H rfl (does_move rfl) ?_; clear H a; intro a H
      have S1 := (S.sel [0, 1] rfl rfl)
      refine list_call H rfl rfl Try.func62 rfl rfl (web_span (m + 1) (m + 1) W rb rc (M) x1 x2 _ _ S1.startR (by omega) (by omega) hbig) ?_; clear H a
      rintro _ _ a ⟨rfl, S2⟩ H
      replace S := (S.sel [0, 1, 2, 3] rfl rfl).callR (M := [_, _]) S2; clear S1 S2
      first | (refine list_store H S (i := 0) rfl rfl rfl rfl sz_42 rfl rfl ?_) | (refine list_store H S (i := 1) rfl rfl rfl rfl sz_42 rfl rfl ?_) | (refine list_store H S (i := 2) rfl rfl rfl rfl sz_42 rfl rfl ?_) | (refine list_store H S (i := 3) rfl rfl rfl rfl sz_42 rfl rfl ?_) | (refine list_store_own H S (i := 0) rfl rfl rfl (by omega) (by omega) sz_42 rfl ?_) | (refine list_store_own H S (i := 1) rfl rfl rfl (by omega) (by omega) sz_42 rfl ?_) | (refine list_store_own H S (i := 2) rfl rfl rfl (by omega) (by omega) sz_42 rfl ?_) | (refine list_store_own H S (i := 3) rfl rfl rfl (by omega) (by omega) sz_42 rfl ?_)
      clear H a S; intro _ a S H
      refine list_does H rfl (does_assign rfl) ?_; clear H a; intro a H
      refine hK9 _ _ ?_
      clear hK9 K9
      refine wp_ret ?_
      refine retA1 (fn := Try.f28) rfl H rfl agg_42 (by exact sz_42) (boxAgg S (i := 2) rfl) rfl ?_
      exact ⟨by unfold runO; rw [hW]; rfl, (S.sel [] rfl rfl)⟩

set_option maxRecDepth 100000 in
set_option maxHeartbeats 1000000 in
theorem chain_Longest (links pitch limit : Int) (l : List Gauge) (A : Option Addr) (cp : Nat) (many : Int) (w : World) (hl : InS w noF 4 A l.length (gcell l)) (hn : l.length ≤ 9223372036854775807) :
    Calls Try.prog 30 [.agg [.int .i64 links, .int .i64 pitch, .int .i64 limit].toArray, .slice A l.length cp, .int .i64 many].toArray w (Ret (fun v w' => v = .tuple #[.int .i64 (longO (⟨links, pitch, limit⟩ : Chain) l many).1, .int .i64 (longO (⟨links, pitch, limit⟩ : Chain) l many).2.1, .int .i64 (longO (⟨links, pitch, limit⟩ : Chain) l many).2.2] ∧ St w noF [] w')) := by
  refine enter Try.func30 rfl Try.ntmps30 rfl (fun a H => ?_)
  have S := St.start w
  refine seq_list (fun K1 hK1 => ?_)
  refine list_box H rfl S rfl rfl ?_; clear H a S; intro b3 _ a hb3 hbw3 S H
  refine list_does H rfl (does_assign rfl) ?_; clear H a; intro a H
  refine list_does H rfl (does_assign rfl) ?_; clear H a; intro a H
  refine list_does H rfl (does_assign rfl) ?_; clear H a; intro a H
  refine hK1 _ _ ?_
  clear hK1 K1
  rcases hW : wholeO (⟨links, pitch, limit⟩ : Chain) l (decide (1 ≤ many) && decide (many ≤ links)) with e | M
  · skip
    have he := wholeO_err hW
    replace H := H.keep [1, 2, 3, 6, 7] rfl
    replace S := S.drew
    refine seq_wq [(0, true), (1, true), (2, true), (3, true), (4, true), (5, false), (6, false), (7, true), (8, true), (9, true), (10, true), (11, true)] (by kernel_rfl) (by kernel_rfl) (S.sel [0] rfl rfl) (fun K2 hK2 => ?_)
    refine wq_does H rfl rfl (fun _ S => by first | exact does_loadBox agg_23 sz_23 rfl S (i := 0) rfl rfl) ?_; clear H a; intro a H
    refine wq_does H rfl rfl (fun _ S => does_move rfl) ?_; clear H a; intro a H
    refine wq_does H rfl rfl (fun _ S => does_move rfl) ?_; clear H a; intro a H
    refine wq_does H rfl rfl (fun _ S => by first | exact does_field_pt fo_23_0 rfl | exact does_field fo_23_0 rfl) ?_; clear H a; intro a H
    refine wq_does H rfl rfl (fun _ S => does_load one_3 rfl (by first | exact boxM.rd S (i := 0) rfl rfl)) ?_; clear H a; intro a H
    refine wq_eff rfl ?_
    refine list_call H rfl rfl Try.func63 rfl rfl (chain_within _ _ _ _) ?_; clear H a
    rintro _ _ a ⟨rfl, rfl⟩ H
    refine wpList_nil (And.intro (S.sel [0] rfl rfl) ?_)
    refine wq_eff rfl ?_
    refine list_call H rfl rfl Try.func60 rfl rfl (ret_imp (chain_whole links pitch limit l A cp (decide (1 ≤ many) && decide (many ≤ links)) _ (hl.now S) hn) (fun _ _ => whole_err hW)) ?_; clear H a
    rintro _ _ a ⟨rfl, S2⟩ H
    replace S := S.call S2; clear S2
    refine wpList_nil (And.intro (S.sel [0] rfl rfl) ?_)
    refine wq_does H rfl rfl (fun _ S => does_move rfl) ?_; clear H a; intro a H
    refine wq_does H rfl rfl (fun _ S => does_extract rfl rfl) ?_; clear H a; intro a H
    refine wq_does H rfl rfl (fun _ S => does_extract rfl rfl) ?_; clear H a; intro a H
    refine wq_does H rfl rfl (fun _ S => does_assign rfl) ?_; clear H a; intro a H
    refine wq_does H rfl rfl (fun _ S => does_assign rfl) ?_; clear H a; intro a H
    refine wq_nil ?_
    refine hK2 _ _ ?_
    clear hK2 K2
    refine wp_seq_k (fun K3 hK3 => ?_)
    replace H := H.keep [2, 3, 6, 7, 8, 9] rfl
    refine seq_still (fun K4 hK4 => ?_)
    refine still_does H rfl (does_move rfl) ?_; clear H a; intro a H
    refine still_does H rfl (does_neq rfl rfl) ?_; clear H a; intro a H
    refine wpStill_nil (hK4 _ ?_)
    clear hK4 K4
    refine cond_ H rfl (fun hc1 => ?_) (fun hc1 => ?_)
    · try simp only [Bool.or_eq_true, Bool.and_eq_true, Bool.not_eq_true', Bool.or_eq_false_iff, Bool.and_eq_false_iff, Bool.not_eq_false', decide_eq_true_eq, decide_eq_false_iff_not, Int.not_lt, Int.not_le] at hc1
      replace H := H.keep [8] rfl
      refine seq_still (fun K5 hK5 => ?_)
      refine still_does H rfl (does_move rfl) ?_; clear H a; intro a H
      refine still_does H rfl (does_assign rfl) ?_; clear H a; intro a H
      refine still_does H rfl (does_assign rfl) ?_; clear H a; intro a H
      refine still_does H rfl (does_assign rfl) ?_; clear H a; intro a H
      refine wpStill_nil (hK5 _ ?_)
      clear hK5 K5
      refine wp_ret ?_
      refine ret3 (fn := Try.f30) rfl H rfl rfl rfl ?_
      exact ⟨by unfold longO; rw [hW]; rfl, (S.sel [] rfl rfl)⟩
    · try simp only [Bool.or_eq_true, Bool.and_eq_true, Bool.not_eq_true', Bool.or_eq_false_iff, Bool.and_eq_false_iff, Bool.not_eq_false', decide_eq_true_eq, decide_eq_false_iff_not, Int.not_lt, Int.not_le] at hc1
      all_goals (exfalso; omega)
  · skip
    have hG := wholeO_good hW; have hC := hG.2; unfold chainOk at hC; simp only [decide_eq_true_eq] at hC
    obtain ⟨m, rfl⟩ := Int.eq_ofNat_of_zero_le (show 0 ≤ links by omega)
    have hG1 : Good (m + 1) M := hG.1; have hB : bdd (m + 1) 2199023255552 M := hG1.bdd; have hW1 := wholeO_ok hW
    have hAB := hW1.2.1; simp only [Bool.and_eq_true, decide_eq_true_eq] at hAB; obtain ⟨mm, rfl⟩ := Int.eq_ofNat_of_zero_le (show 0 ≤ many by omega)
    have hbig : bdd (m + 1) 4611686018427387904 M := fun x y hx hy => by have := hB x y hx hy; omega
    replace H := H.keep [1, 2, 3, 6, 7] rfl
    replace S := S.drew
    refine seq_wq [(0, true), (1, true), (2, true), (3, true), (4, true), (5, false), (6, false), (7, true), (8, true), (9, true), (10, true), (11, true)] (by kernel_rfl) (by kernel_rfl) (S.sel [0] rfl rfl) (fun K6 hK6 => ?_)
    refine wq_does H rfl rfl (fun _ S => by first | exact does_loadBox agg_23 sz_23 rfl S (i := 0) rfl rfl) ?_; clear H a; intro a H
    refine wq_does H rfl rfl (fun _ S => does_move rfl) ?_; clear H a; intro a H
    refine wq_does H rfl rfl (fun _ S => does_move rfl) ?_; clear H a; intro a H
    refine wq_does H rfl rfl (fun _ S => by first | exact does_field_pt fo_23_0 rfl | exact does_field fo_23_0 rfl) ?_; clear H a; intro a H
    refine wq_does H rfl rfl (fun _ S => does_load one_3 rfl (by first | exact boxM.rd S (i := 0) rfl rfl)) ?_; clear H a; intro a H
    refine wq_eff rfl ?_
    refine list_call H rfl rfl Try.func63 rfl rfl (chain_within _ _ _ _) ?_; clear H a
    rintro _ _ a ⟨rfl, rfl⟩ H
    refine wpList_nil (And.intro (S.sel [0] rfl rfl) ?_)
    refine wq_eff rfl ?_
    refine list_call H rfl rfl Try.func60 rfl rfl (ret_imp (chain_whole m pitch limit l A cp (decide (1 ≤ (mm : Int)) && decide ((mm : Int) ≤ (m : Int))) _ (hl.now S) hn) (fun _ _ => whole_ok (n := m + 1) hW)) ?_; clear H a
    rintro _ _ a ⟨W, rb, rc, rfl, S2⟩ H
    replace S := S.call S2; clear S2
    refine wpList_nil (And.intro (S.sel [2] rfl rfl) ?_)
    refine wq_does H rfl rfl (fun _ S => does_move rfl) ?_; clear H a; intro a H
    refine wq_does H rfl rfl (fun _ S => does_extract rfl rfl) ?_; clear H a; intro a H
    refine wq_does H rfl rfl (fun _ S => does_extract rfl rfl) ?_; clear H a; intro a H
    refine wq_does H rfl rfl (fun _ S => does_assign rfl) ?_; clear H a; intro a H
    refine wq_does H rfl rfl (fun _ S => does_assign rfl) ?_; clear H a; intro a H
    refine wq_nil ?_
    refine hK6 _ _ ?_
    clear hK6 K6
    refine wp_seq_k (fun K7 hK7 => ?_)
    replace H := H.keep [2, 3, 6, 7, 8, 9] rfl
    refine seq_still (fun K8 hK8 => ?_)
    refine still_does H rfl (does_move rfl) ?_; clear H a; intro a H
    refine still_does H rfl (does_neq rfl rfl) ?_; clear H a; intro a H
    refine wpStill_nil (hK8 _ ?_)
    clear hK8 K8
    refine cond_ H rfl (fun hc2 => ?_) (fun hc2 => ?_)
    · try simp only [Bool.or_eq_true, Bool.and_eq_true, Bool.not_eq_true', Bool.or_eq_false_iff, Bool.and_eq_false_iff, Bool.not_eq_false', decide_eq_true_eq, decide_eq_false_iff_not, Int.not_lt, Int.not_le] at hc2
      all_goals first | (exfalso; omega) | (simp at hc2)
    · try simp only [Bool.or_eq_true, Bool.and_eq_true, Bool.not_eq_true', Bool.or_eq_false_iff, Bool.and_eq_false_iff, Bool.not_eq_false', decide_eq_true_eq, decide_eq_false_iff_not, Int.not_lt, Int.not_le] at hc2
      refine wp_skip ?_
      refine hK7 _ _ ?_
      refine wp_seq_k (fun K9 hK9 => ?_)
      replace H := H.keep [2, 3, 6, 7, 9] rfl
      refine seq_still (fun K10 hK10 => ?_)
      refine still_does H rfl (does_assign rfl) ?_; clear H a; intro a H
      refine wpStill_nil (hK10 _ ?_)
      clear hK10 K10
      refine wp_block ?_
      refine loop_st (X := Nat × Int × Int) (R0 := _) [2, 3, 9] H rfl (fun ⟨k, at_, mo⟩ => [(6, .int .i64 at_), (7, .int .i64 mo), (10, .int .i64 (k : Int))]) (fun ⟨k, at_, mo⟩ => []) (fun g ⟨k, at_, mo⟩ => k + mm ≤ m + 1 ∧ g + k + mm = m + 1 ∧ longTo M mm k = (at_, mo)) (m + 1 - mm) (0, 0, 0) ?_ (S.sel [0, 1, 2] rfl rfl) (H.keep [6, 7, 10, 2, 3, 9] rfl) ?_
      · exact ⟨by omega, by omega, rfl⟩
      · intro g1 x1 a w1 hp S H K11 hK11
        obtain ⟨k, at_, mo⟩ := x1
        dsimp only at hp S H
        refine wp_seq_k (fun K12 hK12 => ?_)
        replace H := H.keep [2, 3, 6, 7, 9, 10] rfl
        refine seq_still (fun K13 hK13 => ?_)
        refine still_does H rfl (does_move rfl) ?_; clear H a; intro a H
        refine still_does H rfl (does_move rfl) ?_; clear H a; intro a H
        refine still_does H rfl (does_add rfl rfl (by unfold i64ok; omega)) ?_; clear H a; intro a H
        refine still_does H rfl (by first | exact does_field_pt fo_23_0 rfl | exact does_field fo_23_0 rfl) ?_; clear H a; intro a H
        refine still_does H rfl (does_load one_3 rfl (by first | exact ownM.rd S (i := 0) rfl (by omega) (by omega) | exact rowsM.rd S (i := 1) rfl (by omega) (by omega) | exact boxM.rd S (i := 0) rfl rfl | exact boxM.rd S (i := 1) rfl rfl | exact boxM.rd S (i := 2) rfl rfl)) ?_; clear H a; intro a H
        refine still_does H rfl (does_leq rfl rfl) ?_; clear H a; intro a H
        refine wpStill_nil (hK13 _ ?_)
        clear hK13 K13
        refine cond_ H rfl (fun hc3 => ?_) (fun hc3 => ?_)
        · try simp only [Bool.or_eq_true, Bool.and_eq_true, Bool.not_eq_true', Bool.or_eq_false_iff, Bool.and_eq_false_iff, Bool.not_eq_false', decide_eq_true_eq, decide_eq_false_iff_not, Int.not_lt, Int.not_le] at hc3
          refine wp_skip ?_
          refine hK12 _ _ ?_
          refine wp_seq_k (fun K14 hK14 => ?_)
          refine wp_block ?_
          replace H := H.keep [2, 3, 6, 7, 9, 10] rfl
          refine seq_still (fun K15 hK15 => ?_)
          refine still_does H rfl (does_move rfl) ?_; clear H a; intro a H
          refine still_does H rfl (does_move rfl) ?_; clear H a; intro a H
          refine still_does H rfl (by first | exact does_indexN sl_94 sz_29 rfl rfl (by first | exact ownM.adr S (i := 0) rfl (by omega) | exact rfl) (by first | omega | omega) | exact does_index sl_94 sz_29 rfl rfl (by first | exact ownM.adr S (i := 0) rfl (by omega) | exact rfl) (by omega) (by first | omega | omega)) ?_; clear H a; intro a H
          refine still_does H rfl (does_load one_29 rfl (by first | exact ownM.rd S (i := 0) rfl (by omega) (by omega) | exact rowsM.rd S (i := 1) rfl (by omega) (by omega) | exact boxM.rd S (i := 0) rfl rfl | exact boxM.rd S (i := 1) rfl rfl | exact boxM.rd S (i := 2) rfl rfl)) ?_; clear H a; intro a H
          refine still_does H rfl (does_move rfl) ?_; clear H a; intro a H
          refine still_does H rfl (does_move rfl) ?_; clear H a; intro a H
          refine still_does H rfl (does_add rfl rfl (by unfold i64ok; omega)) ?_; clear H a; intro a H
          refine still_does H rfl (by first | exact does_indexN sl_29 sz_3 rfl rfl (by first | exact ownM.adr S (i := 0) rfl (by omega) | exact rfl) (by first | omega | omega) | exact does_index sl_29 sz_3 rfl rfl (by first | exact ownM.adr S (i := 0) rfl (by omega) | exact rfl) (by omega) (by first | omega | omega)) ?_; clear H a; intro a H
          refine still_does H rfl (does_load one_3 rfl (by first | exact ownM.rd S (i := 0) rfl (by omega) (by omega) | exact rowsM.rd S (i := 1) rfl (by omega) (by omega) | exact boxM.rd S (i := 0) rfl rfl | exact boxM.rd S (i := 1) rfl rfl | exact boxM.rd S (i := 2) rfl rfl)) ?_; clear H a; intro a H
          refine still_does H rfl (does_assign rfl) ?_; clear H a; intro a H
          refine wpStill_nil (hK15 _ ?_)
          clear hK15 K15
          replace H := H.keep [2, 3, 6, 7, 9, 10, 11] rfl
          refine seq_still (fun K16 hK16 => ?_)
          refine still_does H rfl (does_move rfl) ?_; clear H a; intro a H
          refine still_does H rfl (does_eql rfl rfl) ?_; clear H a; intro a H
          refine still_does H rfl (does_move rfl) ?_; clear H a; intro a H
          apply still_guard (i := 2) (g := 44) (t := 47) (b := false) 3 H rfl rfl (by kernel_rfl) (by kernel_rfl) rfl rfl
          case h1 =>
            intro hg3
            refine still_yes' H rfl rfl (by assumption) ?_
            refine still_does H rfl (does_move rfl) ?_; intro a H
            refine still_yes' H rfl rfl (by assumption) ?_
            refine still_does H rfl (does_move rfl) ?_; intro a H
            refine still_yes' H rfl rfl (by assumption) ?_
            refine still_does H rfl (does_gtr rfl rfl) ?_; intro a H
            exact wpStill_nil (H.strip 3 rfl rfl)
          case k =>
            clear H a; intro a H
            refine still_does H rfl (by first | exact does_or rfl rfl rfl | exact does_pick rfl rfl rfl) ?_; clear H a; intro a H
            refine wpStill_nil (hK16 _ ?_)
            clear hK16 K16
            refine cond_ H rfl (fun hc4 => ?_) (fun hc4 => ?_)
            · try simp only [Bool.or_eq_true, Bool.and_eq_true, Bool.not_eq_true', Bool.or_eq_false_iff, Bool.and_eq_false_iff, Bool.not_eq_false', decide_eq_true_eq, decide_eq_false_iff_not, Int.not_lt, Int.not_le] at hc4
              replace H := H.keep [2, 3, 9, 10, 11] rfl
              refine one_still ?_
              refine still_does H rfl (does_move rfl) ?_; clear H a; intro a H
              refine still_does H rfl (does_move rfl) ?_; clear H a; intro a H
              refine still_does H rfl (does_assign rfl) ?_; clear H a; intro a H
              refine still_does H rfl (does_assign rfl) ?_; clear H a; intro a H
              refine wpStill_nil ?_
              refine hK14 _ _ ?_
              replace H := H.keep [2, 3, 6, 7, 9, 10] rfl
              refine one_still ?_
              refine still_does H rfl (does_move rfl) ?_; clear H a; intro a H
              refine still_does H rfl (does_add rfl rfl (by unfold i64ok; omega)) ?_; clear H a; intro a H
              refine still_does H rfl (does_assign rfl) ?_; clear H a; intro a H
              refine wpStill_nil ?_
              exact hK11 (g1 - 1) (k + 1, _, _) a _ (by omega) (⟨by omega, by omega, by rw [longTo, hp.2.2]; first | rw [if_pos (by (try dsimp only); omega)] | rw [if_neg (by (try dsimp only); omega)]⟩) (S.sel [0, 1, 2] rfl rfl) (H.keep [6, 7, 10, 2, 3, 9] rfl)
            · try simp only [Bool.or_eq_true, Bool.and_eq_true, Bool.not_eq_true', Bool.or_eq_false_iff, Bool.and_eq_false_iff, Bool.not_eq_false', decide_eq_true_eq, decide_eq_false_iff_not, Int.not_lt, Int.not_le] at hc4
              refine wp_skip ?_
              refine hK14 _ _ ?_
              replace H := H.keep [2, 3, 6, 7, 9, 10] rfl
              refine one_still ?_
              refine still_does H rfl (does_move rfl) ?_; clear H a; intro a H
              refine still_does H rfl (does_add rfl rfl (by unfold i64ok; omega)) ?_; clear H a; intro a H
              refine still_does H rfl (does_assign rfl) ?_; clear H a; intro a H
              refine wpStill_nil ?_
              exact hK11 (g1 - 1) (k + 1, _, _) a _ (by omega) (⟨by omega, by omega, by rw [longTo, hp.2.2]; first | rw [if_pos (by (try dsimp only); omega)] | rw [if_neg (by (try dsimp only); omega)]⟩) (S.sel [0, 1, 2] rfl rfl) (H.keep [6, 7, 10, 2, 3, 9] rfl)
        · try simp only [Bool.or_eq_true, Bool.and_eq_true, Bool.not_eq_true', Bool.or_eq_false_iff, Bool.and_eq_false_iff, Bool.not_eq_false', decide_eq_true_eq, decide_eq_false_iff_not, Int.not_lt, Int.not_le] at hc3
          refine wp_exit ?_
          refine hK9 _ _ ?_
          replace H := H.keep [6, 7] rfl
          refine seq_still (fun K20 hK20 => ?_)
          refine still_does H rfl (does_move rfl) ?_; clear H a; intro a H
          refine still_does H rfl (does_move rfl) ?_; clear H a; intro a H
          refine still_does H rfl (does_assign rfl) ?_; clear H a; intro a H
          refine still_does H rfl (does_assign rfl) ?_; clear H a; intro a H
          refine still_does H rfl (does_assign rfl) ?_; clear H a; intro a H
          refine wpStill_nil (hK20 _ ?_)
          clear hK20 K20
          refine wp_ret ?_
          refine ret3 (fn := Try.f30) rfl H rfl rfl rfl ?_
          have hk9 : k = m + 1 - mm := by omega
          subst hk9
          have h9 : longO ⟨m, pitch, limit⟩ l mm = (at_, mo, 0) := by
            unfold longO; (try dsimp only); rw [hW]; show ((longTo M mm (m + 1 - mm)).1, (longTo M mm (m + 1 - mm)).2, (0 : Int)) = _; rw [hp.2.2]
          rw [h9]; exact ⟨rfl, (S.sel [] rfl rfl)⟩

set_option maxRecDepth 100000 in
set_option maxHeartbeats 1000000 in
theorem chain_Links (links pitch limit : Int) (l : List Gauge) (A : Option Addr) (cp : Nat) (w : World) (hl : InS w noF 4 A l.length (gcell l)) (hn : l.length ≤ 9223372036854775807) :
    Calls Try.prog 25 [.agg [.int .i64 links, .int .i64 pitch, .int .i64 limit].toArray, .slice A l.length cp].toArray w (Ret (fun v w' => match wholeO (⟨links, pitch, limit⟩ : Chain) l true with | .error e => v = .tuple #[.slice none 0 0, .int .i64 e] ∧ St w noF [] w' | .ok M => ∃ A' c', v = .tuple #[.slice A' links.toNat c', .int .i64 0] ∧ St w noF [ownM 42 2 A' links.toNat c' (sp2 (fun k => -(M (k + 1) k)) (fun k => M k (k + 1)))] w')) := by
  refine enter Try.func25 rfl Try.ntmps25 rfl (fun a H => ?_)
  have S := St.start w
  refine seq_list (fun K1 hK1 => ?_)
  refine list_box H rfl S rfl rfl ?_; clear H a S; intro b2 _ a hb2 hbw2 S H
  refine list_does H rfl (does_assign rfl) ?_; clear H a; intro a H
  refine list_does H rfl (does_assign rfl) ?_; clear H a; intro a H
  refine hK1 _ _ ?_
  clear hK1 K1
  rcases hW : wholeO (⟨links, pitch, limit⟩ : Chain) l (true) with e | M
  · skip
    have he := wholeO_err hW
    replace H := H.keep [1, 2] rfl
    refine seq_list (fun K2 hK2 => ?_)
    refine list_does H rfl (by first | exact does_loadBox agg_23 sz_23 rfl S (i := 0) rfl rfl) ?_; clear H a; intro a H
    refine list_does H rfl (does_move rfl) ?_; clear H a; intro a H
    refine list_call H rfl rfl Try.func60 rfl rfl (ret_imp (chain_whole links pitch limit l A cp (true) _ (hl.now S) hn) (fun _ _ => whole_err hW)) ?_; clear H a
    rintro _ _ a ⟨rfl, S2⟩ H
    replace S := S.call S2; clear S2
    refine list_does H rfl (does_move rfl) ?_; clear H a; intro a H
    refine list_does H rfl (does_extract rfl rfl) ?_; clear H a; intro a H
    refine list_does H rfl (does_extract rfl rfl) ?_; clear H a; intro a H
    refine list_does H rfl (does_assign rfl) ?_; clear H a; intro a H
    refine list_does H rfl (does_assign rfl) ?_; clear H a; intro a H
    refine hK2 _ _ ?_
    clear hK2 K2
    refine wp_seq_k (fun K3 hK3 => ?_)
    replace H := H.keep [2, 6, 7] rfl
    refine seq_still (fun K4 hK4 => ?_)
    refine still_does H rfl (does_move rfl) ?_; clear H a; intro a H
    refine still_does H rfl (does_neq rfl rfl) ?_; clear H a; intro a H
    refine wpStill_nil (hK4 _ ?_)
    clear hK4 K4
    refine cond_ H rfl (fun hc1 => ?_) (fun hc1 => ?_)
    · try simp only [Bool.or_eq_true, Bool.and_eq_true, Bool.not_eq_true', Bool.or_eq_false_iff, Bool.and_eq_false_iff, Bool.not_eq_false', decide_eq_true_eq, decide_eq_false_iff_not, Int.not_lt, Int.not_le] at hc1
      replace H := H.keep [7] rfl
      refine seq_still (fun K5 hK5 => ?_)
      refine still_does H rfl (does_move rfl) ?_; clear H a; intro a H
      refine still_does H rfl (does_assign rfl) ?_; clear H a; intro a H
      refine still_does H rfl (does_assign rfl) ?_; clear H a; intro a H
      refine wpStill_nil (hK5 _ ?_)
      clear hK5 K5
      refine wp_ret ?_
      refine ret2 (fn := Try.f25) rfl H rfl rfl ?_
      exact ⟨rfl, (S.sel [] rfl rfl)⟩
    · try simp only [Bool.or_eq_true, Bool.and_eq_true, Bool.not_eq_true', Bool.or_eq_false_iff, Bool.and_eq_false_iff, Bool.not_eq_false', decide_eq_true_eq, decide_eq_false_iff_not, Int.not_lt, Int.not_le] at hc1
      all_goals (exfalso; omega)
  · skip
    have hG := wholeO_good hW; have hC := hG.2; unfold chainOk at hC; simp only [decide_eq_true_eq] at hC
    obtain ⟨m, rfl⟩ := Int.eq_ofNat_of_zero_le (show 0 ≤ links by omega)
    have hG1 : Good (m + 1) M := hG.1; have hB : bdd (m + 1) 2199023255552 M := hG1.bdd; have hW1 := wholeO_ok hW
    
    have hbig : bdd (m + 1) 4611686018427387904 M := fun x y hx hy => by have := hB x y hx hy; omega
    replace H := H.keep [1, 2] rfl
    refine seq_list (fun K6 hK6 => ?_)
    refine list_does H rfl (by first | exact does_loadBox agg_23 sz_23 rfl S (i := 0) rfl rfl) ?_; clear H a; intro a H
    refine list_does H rfl (does_move rfl) ?_; clear H a; intro a H
    refine list_call H rfl rfl Try.func60 rfl rfl (ret_imp (chain_whole m pitch limit l A cp (true) _ (hl.now S) hn) (fun _ _ => whole_ok (n := m + 1) hW)) ?_; clear H a
    rintro _ _ a ⟨W, rb, rc, rfl, S2⟩ H
    replace S := S.call S2; clear S2
    refine list_does H rfl (does_move rfl) ?_; clear H a; intro a H
    refine list_does H rfl (does_extract rfl rfl) ?_; clear H a; intro a H
    refine list_does H rfl (does_extract rfl rfl) ?_; clear H a; intro a H
    refine list_does H rfl (does_assign rfl) ?_; clear H a; intro a H
    refine list_does H rfl (does_assign rfl) ?_; clear H a; intro a H
    refine hK6 _ _ ?_
    clear hK6 K6
    refine wp_seq_k (fun K7 hK7 => ?_)
    replace H := H.keep [2, 6, 7] rfl
    refine seq_still (fun K8 hK8 => ?_)
    refine still_does H rfl (does_move rfl) ?_; clear H a; intro a H
    refine still_does H rfl (does_neq rfl rfl) ?_; clear H a; intro a H
    refine wpStill_nil (hK8 _ ?_)
    clear hK8 K8
    refine cond_ H rfl (fun hc2 => ?_) (fun hc2 => ?_)
    · try simp only [Bool.or_eq_true, Bool.and_eq_true, Bool.not_eq_true', Bool.or_eq_false_iff, Bool.and_eq_false_iff, Bool.not_eq_false', decide_eq_true_eq, decide_eq_false_iff_not, Int.not_lt, Int.not_le] at hc2
      all_goals first | (exfalso; omega) | (simp at hc2)
    · try simp only [Bool.or_eq_true, Bool.and_eq_true, Bool.not_eq_true', Bool.or_eq_false_iff, Bool.and_eq_false_iff, Bool.not_eq_false', decide_eq_true_eq, decide_eq_false_iff_not, Int.not_lt, Int.not_le] at hc2
      refine wp_skip ?_
      refine hK7 _ _ ?_
      replace H := H.keep [2, 6] rfl
      refine seq_still (fun K9 hK9 => ?_)
      refine still_does H rfl (does_assign rfl) ?_; clear H a; intro a H
      refine wpStill_nil (hK9 _ ?_)
      clear hK9 K9
      refine wp_seq_k (fun K10 hK10 => ?_)
      replace H := H.keep [2, 6, 8] rfl
      refine seq_still (fun K11 hK11 => ?_)
      refine still_does H rfl (by first | exact does_field_pt fo_23_0 rfl | exact does_field fo_23_0 rfl) ?_; clear H a; intro a H
      refine still_does H rfl (does_load one_3 rfl (by first | exact boxM.rd S (i := 0) rfl rfl | exact boxM.rd S (i := 1) rfl rfl | exact boxM.rd S (i := 2) rfl rfl)) ?_; clear H a; intro a H
      refine still_does H rfl (does_move rfl) ?_; clear H a; intro a H
      refine wpStill_nil (hK11 _ ?_)
      clear hK11 K11
      refine wp_block ?_
      replace S := S.newNil 42 2 (sp2 (fun k => -(M (k + 1) k)) (fun k => M k (k + 1)))
      refine loop_st (X := Nat × Option Addr × Nat) (R0 := _) [6, 20] H rfl (fun ⟨k, A', c'⟩ => [(8, .slice A' k c'), (21, .int .i64 (k : Int))]) (fun ⟨k, A', c'⟩ => [ownM 42 2 A' k c' (sp2 (fun k => -(M (k + 1) k)) (fun k => M k (k + 1)))]) (fun g ⟨k, A', c'⟩ => k ≤ m ∧ g + k = m) (m) (0, none, 0) ?_ (S.sel [0, 1, 2, 3] rfl rfl) (H.keep [8, 21, 6, 20] rfl) ?_
      · exact ⟨by omega, by omega⟩
      · intro g1 x1 a w1 hp S H K12 hK12
        obtain ⟨k, A', c'⟩ := x1
        dsimp only at hp S H
        replace H := H.keep [6, 8, 20, 21] rfl
        refine seq_still (fun K13 hK13 => ?_)
        refine still_does H rfl (does_lss rfl rfl) ?_; clear H a; intro a H
        refine wpStill_nil (hK13 _ ?_)
        clear hK13 K13
        refine wp_seq_k (fun K14 hK14 => ?_)
        refine cond_ H rfl (fun hc3 => ?_) (fun hc3 => ?_)
        · try simp only [Bool.or_eq_true, Bool.and_eq_true, Bool.not_eq_true', Bool.or_eq_false_iff, Bool.and_eq_false_iff, Bool.not_eq_false', decide_eq_true_eq, decide_eq_false_iff_not, Int.not_lt, Int.not_le] at hc3
          refine wp_skip ?_
          refine hK14 _ _ ?_
          refine wp_seq_k (fun K15 hK15 => ?_)
          refine wp_block ?_
          replace H := H.keep [6, 8, 20, 21] rfl
          refine seq_still (fun K16 hK16 => ?_)
          refine still_does H rfl (does_move rfl) ?_; clear H a; intro a H
          refine still_does H rfl (does_assign rfl) ?_; clear H a; intro a H
          refine wpStill_nil (hK16 _ ?_)
          clear hK16 K16
          replace H := H.keep [6, 8, 9, 20, 21] rfl
          refine one_list ?_
          refine list_does H rfl (does_move rfl) ?_; clear H a; intro a H
          refine list_does H rfl (does_move rfl) ?_; clear H a; intro a H
          refine list_does H rfl (does_move rfl) ?_; clear H a; intro a H
          refine list_does H rfl (does_move rfl) ?_; clear H a; intro a H
          refine list_does H rfl (does_add rfl rfl (by unfold i64ok; omega)) ?_; clear H a; intro a H
          have S1 := (S.sel [1, 2] rfl rfl)
          refine list_call H rfl rfl Try.func62 rfl rfl (web_span (m + 1) (m + 1) W rb rc (M) k (k + 1) _ _ S1.startR (by omega) (by omega) hbig) ?_; clear H a
          rintro _ _ a ⟨rfl, S2⟩ H
          replace S := (S.sel [1, 2, 0, 3] rfl rfl).callR (M := [_, _]) S2; clear S1 S2
          refine list_build' H rfl S sl_37 sz_42 ze_42 rfl rfl rfl rfl rfl rfl rfl rfl rfl ?_; clear H a S; intro A1 _ a hA1 S H
          refine list_append H rfl S sl_37 sz_42 ze_42 by_42 rfl rfl (i := 3) rfl rfl rfl (ownM.inS S (i := 0) rfl) (one_vs (two rfl rfl)) (by omega) (by omega) ?_; clear H a S; intro A2 c2 _ a S H
          replace S := S.recell (i := 3) rfl (capp_one (two rfl rfl))
          refine list_does H rfl (does_assign rfl) ?_; clear H a; intro a H
          refine hK15 _ _ ?_
          replace H := H.keep [6, 8, 20, 21] rfl
          refine one_still ?_
          refine still_does H rfl (does_add rfl rfl (by unfold i64ok; omega)) ?_; clear H a; intro a H
          refine still_does H rfl (does_move rfl) ?_; clear H a; intro a H
          refine wpStill_nil ?_
          exact hK12 (g1 - 1) (k + 1, _, _) a _ (by omega) (by omega) (S.sel [3, 1, 2, 4] rfl rfl) (H.keep [8, 21, 6, 20] rfl)
        · try simp only [Bool.or_eq_true, Bool.and_eq_true, Bool.not_eq_true', Bool.or_eq_false_iff, Bool.and_eq_false_iff, Bool.not_eq_false', decide_eq_true_eq, decide_eq_false_iff_not, Int.not_lt, Int.not_le] at hc3
          refine wp_exit ?_
          refine hK10 _ _ ?_
          replace H := H.keep [8] rfl
          refine seq_still (fun K19 hK19 => ?_)
          refine still_does H rfl (does_move rfl) ?_; clear H a; intro a H
          refine still_does H rfl (does_assign rfl) ?_; clear H a; intro a H
          refine still_does H rfl (does_assign rfl) ?_; clear H a; intro a H
          refine wpStill_nil (hK19 _ ?_)
          clear hK19 K19
          refine wp_ret ?_
          refine ret2 (fn := Try.f25) rfl H rfl rfl ?_
          have hk9 : m = k := by omega
          subst hk9
          exact ⟨A', c', rfl, (S.sel [0] rfl rfl)⟩

end Go.Proofs.Ytlejjfhgfajoiaa
