/- ChJ. Printed by gen.py. -/
import Derived.Test.YtlejjfhgfajoiaaChI
import Derived.Test.YtlejjfhgfajoiaaLaw2
namespace Go.Proofs.Ytlejjfhgfajoiaa
open Go.RowKit
set_option linter.unusedVariables false
set_option linter.unusedSimpArgs false


def BuiltW (w : World) (n : Nat) (o : Option IM) (v : Value) (w' : World) : Prop := match o with
  | some M => ∃ W cw rb rc, v = .tuple #[.slice W n cw, .bool true] ∧ St w noF [ownM 29 1 W n cw (fun i _ => rowv rb rc n i), rowsM 3 n n rb rc (M)] w'
  | none => ∃ W cw, v = .tuple #[.slice W n cw, .bool false] ∧ St w noF [] w'
theorem built_some {w : World} {n : Nat} {o : Option IM} {M : IM} (h : o = some M) {v : Value} {w' : World} (hw : BuiltW w n o v w') : ∃ W cw rb rc, v = .tuple #[.slice W n cw, .bool true] ∧ St w noF [ownM 29 1 W n cw (fun i _ => rowv rb rc n i), rowsM 3 n n rb rc (M)] w' := by subst h; exact hw
theorem built_none {w : World} {n : Nat} {o : Option IM} (h : o = none) {v : Value} {w' : World} (hw : BuiltW w n o v w') : ∃ W cw, v = .tuple #[.slice W n cw, .bool false] ∧ St w noF [] w' := by subst h; exact hw
theorem ref_buildI (links pitch limit : Int) (l : List Gauge) (A : Option Addr) (cp : Nat) (w : World) (hc : chainOk ⟨links, pitch, limit⟩ = true) (hlen : l.length ≤ 1000000) (hg : l.all (gaugeOk links) = true) (hl : InS w noF 4 A l.length (gcell l)) :
    Calls Try.prog 68 [.agg [.int .i64 links, .int .i64 pitch, .int .i64 limit].toArray, .slice A l.length cp].toArray w (Ret (BuiltW w (Chain.n ⟨links, pitch, limit⟩) (weaveW ⟨links, pitch, limit⟩ l yes))) := by
  have h4 : 0 ≤ links := by have h1 := hc; unfold chainOk at h1; simp only [decide_eq_true_eq] at h1; omega
  obtain ⟨m, rfl⟩ := Int.eq_ofNat_of_zero_le h4
  refine ret_imp (ref_build m pitch limit l A cp w hc hlen hg hl) fun v w' h => ?_
  have hb := build_law (c := ⟨m, pitch, limit⟩) hc hg
  cases hq : weaveW ⟨m, pitch, limit⟩ l yes with
  | none =>
    rw [hq] at hb
    simp only at hb
    rw [hb] at h
    exact h
  | some M =>
    rw [hq] at hb
    obtain ⟨Fn, hF, he⟩ := hb
    rw [hF] at h
    obtain ⟨W, cw, rb, rc, hv, S⟩ := h
    exact ⟨W, cw, rb, rc, hv, rowsM.congr S (i := 1) rfl (fun x y hx hy => he x y hx hy) (fun _ _ => rfl) (fun _ _ => rfl)⟩
def NetW (w : World) (n : Nat) (o : Except Int IM) (v : Value) (w' : World) : Prop := match o with
  | .ok M => ∃ W cw rb rc, v = .tuple #[.slice W n cw, .int .i64 0] ∧ St w noF [ownM 29 1 W n cw (fun i _ => rowv rb rc n i), rowsM 3 n n rb rc (M)] w'
  | .error e => v = .tuple #[.slice none 0 0, .int .i64 e] ∧ St w noF [] w'
theorem net_ok {w : World} {n : Nat} {o : Except Int IM} {M : IM} (h : o = .ok M) {v : Value} {w' : World} (hw : NetW w n o v w') : ∃ W cw rb rc, v = .tuple #[.slice W n cw, .int .i64 0] ∧ St w noF [ownM 29 1 W n cw (fun i _ => rowv rb rc n i), rowsM 3 n n rb rc (M)] w' := by subst h; exact hw
theorem net_err {w : World} {n : Nat} {o : Except Int IM} {e : Int} (h : o = .error e) {v : Value} {w' : World} (hw : NetW w n o v w') : v = .tuple #[.slice none 0 0, .int .i64 e] ∧ St w noF [] w' := by subst h; exact hw
theorem four {p : Nat → Prop} (h0 : p 0) (h1 : p 1) (h2 : p 2) (h3 : p 3) : ∀ j, j < 4 → p j := by
  intro j hj
  have : j = 0 ∨ j = 1 ∨ j = 2 ∨ j = 3 := by omega
  rcases this with rfl | rfl | rfl | rfl
  · exact h0
  · exact h1
  · exact h2
  · exact h3
theorem gcell_app {l : List Gauge} {g : Gauge} {vs : List Value} (h : ∀ j, j < 4 → vs.getD j undef = g.cell j) : ∀ q j, q < l.length + 1 → j < 4 → capp l.length (gcell l) (fun k' j => ([vs].getD k' []).getD j undef) q j = gcell (l ++ [g]) q j := by
  intro q j hq hj
  unfold capp gcell
  by_cases h1 : q < l.length
  · rw [if_pos h1, List.getD_eq_getElem?_getD, List.getD_eq_getElem?_getD, List.getElem?_append_left h1]
  · rw [if_neg h1]
    have e : q = l.length := by omega
    subst e
    rw [Nat.sub_self, List.getD_eq_getElem?_getD (l := l ++ [g]), List.getElem?_append_right (Nat.le_refl _), Nat.sub_self]
    exact h j hj
theorem isRun_false {c : Chain} {a b : Int} (h : (a < 0 ∨ b < a) ∨ c.links < b) : isRunB c a b = false := by
  unfold isRunB
  rw [← Bool.not_eq_true]
  simp only [Bool.and_eq_true, decide_eq_true_eq]
  omega
theorem isRun_true {c : Chain} {a b : Int} (h : (0 ≤ a ∧ a ≤ b) ∧ b ≤ c.links) : isRunB c a b = true := by
  unfold isRunB
  simp only [Bool.and_eq_true, decide_eq_true_eq]
  omega


set_option maxRecDepth 100000 in
set_option maxHeartbeats 1000000 in
theorem ref_checked (links pitch limit : Int) (l : List Gauge) (A : Option Addr) (cp : Nat) (xa xb : Int) (w : World) (hl : InS w noF 4 A l.length (gcell l)) (hn : l.length ≤ 9223372036854775807) :
    Calls Try.prog 65 [.agg [.int .i64 links, .int .i64 pitch, .int .i64 limit].toArray, .slice A l.length cp, .int .i64 xa, .int .i64 xb].toArray w (Ret (NetW w ((⟨links, pitch, limit⟩ : Chain).n) (wholeO (⟨links, pitch, limit⟩ : Chain) l (isRunB (⟨links, pitch, limit⟩ : Chain) xa xb)))) := by
  refine enter Try.func65 rfl Try.ntmps65 rfl (fun a H => ?_)
  have S := St.start w
  refine seq_list (fun K1 hK1 => ?_)
  refine list_box H rfl S rfl rfl ?_; clear H a S; intro b4 _ a hb4 hbw4 S H
  refine list_does H rfl (does_assign rfl) ?_; clear H a; intro a H
  refine list_does H rfl (does_assign rfl) ?_; clear H a; intro a H
  refine hK1 _ _ ?_
  clear hK1 K1
  replace H := H.keep [1, 2, 3, 4] rfl
  refine seq_list (fun K2 hK2 => ?_)
  refine list_does H rfl (by first | exact does_loadBox agg_23 sz_23 rfl S (i := 0) rfl rfl) ?_; clear H a; intro a H
  refine list_does H rfl (does_move rfl) ?_; clear H a; intro a H
  refine list_call H rfl rfl Try.func24 rfl rfl (ref_Check links pitch limit l A cp _ (hl.now S) hn) ?_; clear H a
  rintro _ _ a ⟨rfl, S2⟩ H
  replace S := S.call S2; clear S2
  refine list_does H rfl (does_assign rfl) ?_; clear H a; intro a H
  refine hK2 _ _ ?_
  clear hK2 K2
  refine wp_seq_k (fun K3 hK3 => ?_)
  replace H := H.keep [1, 2, 3, 4, 10] rfl
  refine seq_still (fun K4 hK4 => ?_)
  refine still_does H rfl (does_move rfl) ?_; clear H a; intro a H
  refine still_does H rfl (does_neq rfl rfl) ?_; clear H a; intro a H
  refine wpStill_nil (hK4 _ ?_)
  clear hK4 K4
  refine cond_ H rfl (fun hc1 => ?_) (fun hc1 => ?_)
  · try simp only [Bool.or_eq_true, Bool.and_eq_true, Bool.not_eq_true', Bool.or_eq_false_iff, Bool.and_eq_false_iff, Bool.not_eq_false', decide_eq_true_eq, decide_eq_false_iff_not, Int.not_lt, Int.not_le] at hc1
    replace H := H.keep [10] rfl
    refine seq_still (fun K5 hK5 => ?_)
    refine still_does H rfl (does_move rfl) ?_; clear H a; intro a H
    refine still_does H rfl (does_assign rfl) ?_; clear H a; intro a H
    refine still_does H rfl (does_assign rfl) ?_; clear H a; intro a H
    refine wpStill_nil (hK5 _ ?_)
    clear hK5 K5
    refine wp_ret ?_
    refine ret2 (fn := Try.f65) rfl H rfl rfl ?_
    show NetW _ _ _ _ _; unfold wholeO; rw [if_pos (by omega)]; exact ⟨rfl, (S.sel [] rfl rfl)⟩
  · try simp only [Bool.or_eq_true, Bool.and_eq_true, Bool.not_eq_true', Bool.or_eq_false_iff, Bool.and_eq_false_iff, Bool.not_eq_false', decide_eq_true_eq, decide_eq_false_iff_not, Int.not_lt, Int.not_le] at hc1
    refine wp_skip ?_
    refine hK3 _ _ ?_
    refine wp_seq_k (fun K6 hK6 => ?_)
    replace H := H.keep [1, 2, 3, 4] rfl
    refine seq_still (fun K7 hK7 => ?_)
    refine still_does H rfl (does_move rfl) ?_; clear H a; intro a H
    refine still_does H rfl (does_lss rfl rfl) ?_; clear H a; intro a H
    refine still_does H rfl (does_move rfl) ?_; clear H a; intro a H
    apply still_guard (i := 2) (g := 21) (t := 24) (b := false) 3 H rfl rfl (by kernel_rfl) (by kernel_rfl) rfl rfl
    case h1 =>
      intro hg3
      refine still_yes' H rfl rfl (by assumption) ?_
      refine still_does H rfl (does_move rfl) ?_; intro a H
      refine still_yes' H rfl rfl (by assumption) ?_
      refine still_does H rfl (does_move rfl) ?_; intro a H
      refine still_yes' H rfl rfl (by assumption) ?_
      refine still_does H rfl (does_gtr rfl rfl) ?_; intro a H
      exact wpStill_nil (H.strip 3 rfl rfl)
    case k =>
      clear H a; intro a H
      refine still_does H rfl (by first | exact does_or rfl rfl rfl | exact does_pick rfl rfl rfl) ?_; clear H a; intro a H
      refine still_does H rfl (does_move rfl) ?_; clear H a; intro a H
      apply still_guard (i := 7) (g := 26) (t := 30) (b := false) 4 H rfl rfl (by kernel_rfl) (by kernel_rfl) rfl rfl
      case h1 =>
        intro hg8
        refine still_yes' H rfl rfl (by assumption) ?_
        refine still_does H rfl (does_move rfl) ?_; intro a H
        refine still_yes' H rfl rfl (by assumption) ?_
        refine still_does H rfl (by first | exact does_field_pt fo_23_0 rfl | exact does_field fo_23_0 rfl) ?_; intro a H
        refine still_yes' H rfl rfl (by assumption) ?_
        refine still_does H rfl (does_load one_3 rfl (by first | exact boxM.rd S (i := 0) rfl rfl)) ?_; intro a H
        refine still_yes' H rfl rfl (by assumption) ?_
        refine still_does H rfl (does_gtr rfl rfl) ?_; intro a H
        exact wpStill_nil (H.strip 4 rfl rfl)
      case k =>
        clear H a; intro a H
        refine still_does H rfl (by first | exact does_or rfl rfl rfl | exact does_pick rfl rfl rfl) ?_; clear H a; intro a H
        refine wpStill_nil (hK7 _ ?_)
        clear hK7 K7
        refine cond_ H rfl (fun hc2 => ?_) (fun hc2 => ?_)
        · try simp only [Bool.or_eq_true, Bool.and_eq_true, Bool.not_eq_true', Bool.or_eq_false_iff, Bool.and_eq_false_iff, Bool.not_eq_false', decide_eq_true_eq, decide_eq_false_iff_not, Int.not_lt, Int.not_le] at hc2
          replace H := H.keep [] rfl
          refine seq_still (fun K8 hK8 => ?_)
          refine still_does H rfl (does_assign rfl) ?_; clear H a; intro a H
          refine still_does H rfl (does_assign rfl) ?_; clear H a; intro a H
          refine wpStill_nil (hK8 _ ?_)
          clear hK8 K8
          refine wp_ret ?_
          refine ret2 (fn := Try.f65) rfl H rfl rfl ?_
          show NetW _ _ _ _ _; unfold wholeO; rw [if_neg (by omega), isRun_false (c := (⟨links, pitch, limit⟩ : Chain)) (a := xa) (b := xb) (by (try dsimp only); omega)]; exact ⟨rfl, (S.sel [] rfl rfl)⟩
        · try simp only [Bool.or_eq_true, Bool.and_eq_true, Bool.not_eq_true', Bool.or_eq_false_iff, Bool.and_eq_false_iff, Bool.not_eq_false', decide_eq_true_eq, decide_eq_false_iff_not, Int.not_lt, Int.not_le] at hc2
          refine wp_skip ?_
          refine hK6 _ _ ?_
          have hk : checkE (⟨links, pitch, limit⟩ : Chain) l = 0 := by omega
          have hkk := checkE_ok hk
          have hlen40 := hkk.2.1
          have hc2 := isRun_true (c := (⟨links, pitch, limit⟩ : Chain)) (a := xa) (b := xb) (by (try dsimp only); omega)
          rcases hW : weaveW (⟨links, pitch, limit⟩ : Chain) l yes with _ | M
          · skip
            replace H := H.keep [1, 4] rfl
            refine seq_list (fun K9 hK9 => ?_)
            refine list_does H rfl (by first | exact does_loadBox agg_23 sz_23 rfl S (i := 0) rfl rfl) ?_; clear H a; intro a H
            refine list_does H rfl (does_move rfl) ?_; clear H a; intro a H
            refine list_call H rfl rfl Try.func68 rfl rfl (ret_imp (ref_buildI links pitch limit l A cp _ hkk.1 (by omega) hkk.2.2 (hl.now S)) (fun _ _ => built_none hW)) ?_; clear H a
            rintro _ _ a ⟨W, cw, rfl, S2⟩ H
            replace S := S.call S2; clear S2
            refine list_does H rfl (does_move rfl) ?_; clear H a; intro a H
            refine list_does H rfl (does_extract rfl rfl) ?_; clear H a; intro a H
            refine list_does H rfl (does_extract rfl rfl) ?_; clear H a; intro a H
            refine list_does H rfl (does_assign rfl) ?_; clear H a; intro a H
            refine list_does H rfl (does_assign rfl) ?_; clear H a; intro a H
            refine hK9 _ _ ?_
            clear hK9 K9
            refine wp_seq_k (fun K10 hK10 => ?_)
            replace H := H.keep [11, 12] rfl
            refine seq_still (fun K11 hK11 => ?_)
            refine still_does H rfl (does_move rfl) ?_; clear H a; intro a H
            refine still_does H rfl (does_not rfl) ?_; clear H a; intro a H
            refine wpStill_nil (hK11 _ ?_)
            clear hK11 K11
            refine cond_ H rfl (fun hc3 => ?_) (fun hc3 => ?_)
            · skip
              replace H := H.keep [] rfl
              refine seq_still (fun K12 hK12 => ?_)
              refine still_does H rfl (does_assign rfl) ?_; clear H a; intro a H
              refine still_does H rfl (does_assign rfl) ?_; clear H a; intro a H
              refine wpStill_nil (hK12 _ ?_)
              clear hK12 K12
              refine wp_ret ?_
              refine ret2 (fn := Try.f65) rfl H rfl rfl ?_
              show NetW _ _ _ _ _; unfold wholeO; rw [if_neg (by omega), hc2, hW]; exact ⟨rfl, (S.sel [] rfl rfl)⟩
            · skip
              cases hc3
          · skip
            replace H := H.keep [1, 4] rfl
            refine seq_list (fun K13 hK13 => ?_)
            refine list_does H rfl (by first | exact does_loadBox agg_23 sz_23 rfl S (i := 0) rfl rfl) ?_; clear H a; intro a H
            refine list_does H rfl (does_move rfl) ?_; clear H a; intro a H
            refine list_call H rfl rfl Try.func68 rfl rfl (ret_imp (ref_buildI links pitch limit l A cp _ hkk.1 (by omega) hkk.2.2 (hl.now S)) (fun _ _ => built_some hW)) ?_; clear H a
            rintro _ _ a ⟨W, cw, rb, rc, rfl, S2⟩ H
            replace S := S.call S2; clear S2
            refine list_does H rfl (does_move rfl) ?_; clear H a; intro a H
            refine list_does H rfl (does_extract rfl rfl) ?_; clear H a; intro a H
            refine list_does H rfl (does_extract rfl rfl) ?_; clear H a; intro a H
            refine list_does H rfl (does_assign rfl) ?_; clear H a; intro a H
            refine list_does H rfl (does_assign rfl) ?_; clear H a; intro a H
            refine hK13 _ _ ?_
            clear hK13 K13
            refine wp_seq_k (fun K14 hK14 => ?_)
            replace H := H.keep [11, 12] rfl
            refine seq_still (fun K15 hK15 => ?_)
            refine still_does H rfl (does_move rfl) ?_; clear H a; intro a H
            refine still_does H rfl (does_not rfl) ?_; clear H a; intro a H
            refine wpStill_nil (hK15 _ ?_)
            clear hK15 K15
            refine cond_ H rfl (fun hc4 => ?_) (fun hc4 => ?_)
            · skip
              cases hc4
            · skip
              refine wp_skip ?_
              refine hK14 _ _ ?_
              replace H := H.keep [11] rfl
              refine seq_still (fun K16 hK16 => ?_)
              refine still_does H rfl (does_move rfl) ?_; clear H a; intro a H
              refine still_does H rfl (does_assign rfl) ?_; clear H a; intro a H
              refine still_does H rfl (does_assign rfl) ?_; clear H a; intro a H
              refine wpStill_nil (hK16 _ ?_)
              clear hK16 K16
              refine wp_ret ?_
              refine ret2 (fn := Try.f65) rfl H rfl rfl ?_
              show NetW _ _ _ _ _; unfold wholeO; rw [if_neg (by omega), hc2, hW]; exact ⟨W, cw, rb, rc, rfl, (S.sel [0, 1] rfl rfl)⟩

set_option maxRecDepth 100000 in
set_option maxHeartbeats 1000000 in
theorem ref_Run (links pitch limit : Int) (l : List Gauge) (A : Option Addr) (cp : Nat) (xa xb : Int) (w : World) (hl : InS w noF 4 A l.length (gcell l)) (hn : l.length ≤ 9223372036854775807) :
    Calls Try.prog 29 [.agg [.int .i64 links, .int .i64 pitch, .int .i64 limit].toArray, .slice A l.length cp, .int .i64 xa, .int .i64 xb].toArray w (Ret (fun v w' => v = runV (runO (⟨links, pitch, limit⟩ : Chain) l xa xb) ∧ St w noF [] w')) := by
  refine enter Try.func29 rfl Try.ntmps29 rfl (fun a H => ?_)
  have S := St.start w
  refine seq_list (fun K1 hK1 => ?_)
  refine list_box H rfl S rfl rfl ?_; clear H a S; intro b4 _ a hb4 hbw4 S H
  refine list_alloc H rfl S ze_42 ?_; clear H a S; intro b8 _ a hb8 hbw8 S H
  refine list_does H rfl (does_assign rfl) ?_; clear H a; intro a H
  refine hK1 _ _ ?_
  clear hK1 K1
  rcases hW : wholeO (⟨links, pitch, limit⟩ : Chain) l (isRunB (⟨links, pitch, limit⟩ : Chain) xa xb) with e | M
  · skip
    have he := wholeO_err hW
    replace H := H.keep [1, 2, 3, 4, 8] rfl
    refine seq_list (fun K2 hK2 => ?_)
    refine list_does H rfl (by first | exact does_loadBox agg_23 sz_23 rfl S (i := 0) rfl rfl | exact does_loadBox agg_23 sz_23 rfl S (i := 1) rfl rfl) ?_; clear H a; intro a H
    refine list_does H rfl (does_move rfl) ?_; clear H a; intro a H
    refine list_does H rfl (does_move rfl) ?_; clear H a; intro a H
    refine list_does H rfl (does_move rfl) ?_; clear H a; intro a H
    refine list_call H rfl rfl Try.func65 rfl rfl (ret_imp (ref_checked links pitch limit l A cp xa xb _ (hl.now S) hn) (fun _ _ => net_err hW)) ?_; clear H a
    rintro _ _ a ⟨rfl, S2⟩ H
    replace S := S.call S2; clear S2
    refine list_does H rfl (does_move rfl) ?_; clear H a; intro a H
    refine list_does H rfl (does_extract rfl rfl) ?_; clear H a; intro a H
    refine list_does H rfl (does_extract rfl rfl) ?_; clear H a; intro a H
    refine list_does H rfl (does_assign rfl) ?_; clear H a; intro a H
    refine list_does H rfl (does_assign rfl) ?_; clear H a; intro a H
    refine hK2 _ _ ?_
    clear hK2 K2
    refine wp_seq_k (fun K3 hK3 => ?_)
    replace H := H.keep [2, 3, 8, 10, 11] rfl
    refine seq_still (fun K4 hK4 => ?_)
    refine still_does H rfl (does_move rfl) ?_; clear H a; intro a H
    refine still_does H rfl (does_neq rfl rfl) ?_; clear H a; intro a H
    refine wpStill_nil (hK4 _ ?_)
    clear hK4 K4
    refine cond_ H rfl (fun hc1 => ?_) (fun hc1 => ?_)
    · try simp only [Bool.or_eq_true, Bool.and_eq_true, Bool.not_eq_true', Bool.or_eq_false_iff, Bool.and_eq_false_iff, Bool.not_eq_false', decide_eq_true_eq, decide_eq_false_iff_not, Int.not_lt, Int.not_le] at hc1
      replace H := H.keep [8, 11] rfl
      refine seq_list (fun K5 hK5 => ?_)
      refine list_does H rfl (does_build bt_42 rfl rfl) ?_; clear H a; intro a H
      refine list_does H rfl (does_move rfl) ?_; clear H a; intro a H
      first | (refine list_store H S (i := 0) rfl rfl rfl rfl sz_42 rfl rfl ?_) | (refine list_store H S (i := 1) rfl rfl rfl rfl sz_42 rfl rfl ?_) | (refine list_store_own H S (i := 0) rfl rfl rfl (by omega) (by omega) sz_42 rfl ?_) | (refine list_store_own H S (i := 1) rfl rfl rfl (by omega) (by omega) sz_42 rfl ?_)
      clear H a S; intro _ a S H
      refine list_does H rfl (does_assign rfl) ?_; clear H a; intro a H
      refine hK5 _ _ ?_
      clear hK5 K5
      refine wp_ret ?_
      refine retA1 (fn := Try.f29) rfl H rfl agg_42 (by exact sz_42) (boxAgg S (i := 0) rfl) rfl ?_
      exact ⟨by unfold runO; rw [hW]; rfl, (S.sel [] rfl rfl)⟩
    · try simp only [Bool.or_eq_true, Bool.and_eq_true, Bool.not_eq_true', Bool.or_eq_false_iff, Bool.and_eq_false_iff, Bool.not_eq_false', decide_eq_true_eq, decide_eq_false_iff_not, Int.not_lt, Int.not_le] at hc1
      all_goals (exfalso; omega)
  · skip
    have hG := wholeO_good hW; have hC := hG.2; unfold chainOk at hC; simp only [decide_eq_true_eq] at hC
    obtain ⟨m, rfl⟩ := Int.eq_ofNat_of_zero_le (show 0 ≤ links by omega)
    have hG1 : Good (m + 1) M := hG.1; have hB : bdd (m + 1) 2199023255552 M := hG1.bdd; have hW1 := wholeO_ok hW
    have hAB := hW1.2.1; unfold isRunB at hAB; simp only [Bool.and_eq_true, decide_eq_true_eq] at hAB; obtain ⟨x1, rfl⟩ := Int.eq_ofNat_of_zero_le hAB.1.1; obtain ⟨x2, rfl⟩ := Int.eq_ofNat_of_zero_le (show 0 ≤ xb by omega)
    have hbig : bdd (m + 1) 4611686018427387904 M := fun x y hx hy => by have := hB x y hx hy; omega
    have hk0 := checkE_ok hW1.1; have hC0 := hk0.1; have hg0 := hk0.2.2
    replace H := H.keep [1, 2, 3, 4, 8] rfl
    refine seq_list (fun K6 hK6 => ?_)
    refine list_does H rfl (by first | exact does_loadBox agg_23 sz_23 rfl S (i := 0) rfl rfl | exact does_loadBox agg_23 sz_23 rfl S (i := 1) rfl rfl) ?_; clear H a; intro a H
    refine list_does H rfl (does_move rfl) ?_; clear H a; intro a H
    refine list_does H rfl (does_move rfl) ?_; clear H a; intro a H
    refine list_does H rfl (does_move rfl) ?_; clear H a; intro a H
    refine list_call H rfl rfl Try.func65 rfl rfl (ret_imp (ref_checked m pitch limit l A cp x1 x2 _ (hl.now S) hn) (fun _ _ => net_ok (n := m + 1) hW)) ?_; clear H a
    rintro _ _ a ⟨W, cw, rb, rc, rfl, S2⟩ H
    replace S := S.call S2; clear S2
    refine list_does H rfl (does_move rfl) ?_; clear H a; intro a H
    refine list_does H rfl (does_extract rfl rfl) ?_; clear H a; intro a H
    refine list_does H rfl (does_extract rfl rfl) ?_; clear H a; intro a H
    refine list_does H rfl (does_assign rfl) ?_; clear H a; intro a H
    refine list_does H rfl (does_assign rfl) ?_; clear H a; intro a H
    refine hK6 _ _ ?_
    clear hK6 K6
    refine wp_seq_k (fun K7 hK7 => ?_)
    replace H := H.keep [2, 3, 8, 10, 11] rfl
    refine seq_still (fun K8 hK8 => ?_)
    refine still_does H rfl (does_move rfl) ?_; clear H a; intro a H
    refine still_does H rfl (does_neq rfl rfl) ?_; clear H a; intro a H
    refine wpStill_nil (hK8 _ ?_)
    clear hK8 K8
    refine cond_ H rfl (fun hc2 => ?_) (fun hc2 => ?_)
    · try simp only [Bool.or_eq_true, Bool.and_eq_true, Bool.not_eq_true', Bool.or_eq_false_iff, Bool.and_eq_false_iff, Bool.not_eq_false', decide_eq_true_eq, decide_eq_false_iff_not, Int.not_lt, Int.not_le] at hc2
      all_goals first | (exfalso; omega) | (simp at hc2)
    · try simp only [Bool.or_eq_true, Bool.and_eq_true, Bool.not_eq_true', Bool.or_eq_false_iff, Bool.and_eq_false_iff, Bool.not_eq_false', decide_eq_true_eq, decide_eq_false_iff_not, Int.not_lt, Int.not_le] at hc2
      refine wp_skip ?_
      refine hK7 _ _ ?_
      replace H := H.keep [2, 3, 8, 10] rfl
      refine seq_list (fun K9 hK9 => ?_)
      refine list_does H rfl (does_move rfl) ?_; clear H a; intro a H
      refine list_does H rfl (does_move rfl) ?_; clear H a; intro a H
      refine list_does H rfl (does_move rfl) ?_; clear H a; intro a H
      have S1 := (S.sel [0, 1] rfl rfl)
      refine list_call H rfl rfl Try.func66 rfl rfl (net_run (m + 1) cw W rb rc M x1 x2 _ _ S1.startR (by omega) (by omega) hbig) ?_; clear H a
      rintro _ _ a ⟨rfl, S2⟩ H
      replace S := (S.sel [0, 1, 2, 3] rfl rfl).callR (M := [_, _]) S2; clear S1 S2
      first | (refine list_store H S (i := 0) rfl rfl rfl rfl sz_42 rfl rfl ?_) | (refine list_store H S (i := 1) rfl rfl rfl rfl sz_42 rfl rfl ?_) | (refine list_store H S (i := 2) rfl rfl rfl rfl sz_42 rfl rfl ?_) | (refine list_store H S (i := 3) rfl rfl rfl rfl sz_42 rfl rfl ?_) | (refine list_store_own H S (i := 0) rfl rfl rfl (by omega) (by omega) sz_42 rfl ?_) | (refine list_store_own H S (i := 1) rfl rfl rfl (by omega) (by omega) sz_42 rfl ?_) | (refine list_store_own H S (i := 2) rfl rfl rfl (by omega) (by omega) sz_42 rfl ?_) | (refine list_store_own H S (i := 3) rfl rfl rfl (by omega) (by omega) sz_42 rfl ?_)
      clear H a S; intro _ a S H
      refine list_does H rfl (does_assign rfl) ?_; clear H a; intro a H
      refine hK9 _ _ ?_
      clear hK9 K9
      refine wp_ret ?_
      refine retA1 (fn := Try.f29) rfl H rfl agg_42 (by exact sz_42) (boxAgg S (i := 2) rfl) rfl ?_
      exact ⟨by unfold runO; rw [hW]; rfl, (S.sel [] rfl rfl)⟩

set_option maxRecDepth 100000 in
set_option maxHeartbeats 2000000 in
theorem ref_Witness (links pitch limit : Int) (l : List Gauge) (A : Option Addr) (cp : Nat) (xa xb len : Int) (w : World) (hl : InS w noF 4 A l.length (gcell l)) (hn : l.length ≤ 9223372036854775807) :
    Calls Try.prog 21 [.agg [.int .i64 links, .int .i64 pitch, .int .i64 limit].toArray, .slice A l.length cp, .int .i64 xa, .int .i64 xb, .int .i64 len].toArray w (Ret (WitR w links.toNat (witO (⟨links, pitch, limit⟩ : Chain) l xa xb len))) := by
  refine enter Try.func21 rfl Try.ntmps21 rfl (fun a H => ?_)
  have S := St.start w
  refine seq_list (fun K1 hK1 => ?_)
  refine list_box H rfl S rfl rfl ?_; clear H a S; intro b5 _ a hb5 hbw5 S H
  refine list_does H rfl (does_assign rfl) ?_; clear H a; intro a H
  refine list_does H rfl (does_assign rfl) ?_; clear H a; intro a H
  refine hK1 _ _ ?_
  clear hK1 K1
  rcases hW : wholeO (⟨links, pitch, limit⟩ : Chain) l (isRunB (⟨links, pitch, limit⟩ : Chain) xa xb) with e | M
  · skip
    have he := wholeO_err hW
    replace H := H.keep [1, 2, 3, 4, 5] rfl
    refine seq_list (fun K2 hK2 => ?_)
    refine list_does H rfl (by first | exact does_loadBox agg_23 sz_23 rfl S (i := 0) rfl rfl) ?_; clear H a; intro a H
    refine list_does H rfl (does_move rfl) ?_; clear H a; intro a H
    refine list_does H rfl (does_move rfl) ?_; clear H a; intro a H
    refine list_does H rfl (does_move rfl) ?_; clear H a; intro a H
    refine list_call H rfl rfl Try.func65 rfl rfl (ret_imp (ref_checked links pitch limit l A cp xa xb _ (hl.now S) hn) (fun _ _ => net_err hW)) ?_; clear H a
    rintro _ _ a ⟨rfl, S2⟩ H
    replace S := S.call S2; clear S2
    refine list_does H rfl (does_move rfl) ?_; clear H a; intro a H
    refine list_does H rfl (does_extract rfl rfl) ?_; clear H a; intro a H
    refine list_does H rfl (does_extract rfl rfl) ?_; clear H a; intro a H
    refine list_does H rfl (does_assign rfl) ?_; clear H a; intro a H
    refine list_does H rfl (does_assign rfl) ?_; clear H a; intro a H
    refine hK2 _ _ ?_
    clear hK2 K2
    refine wp_seq_k (fun K3 hK3 => ?_)
    replace H := H.keep [1, 2, 3, 4, 5, 12, 13] rfl
    refine seq_still (fun K4 hK4 => ?_)
    refine still_does H rfl (does_move rfl) ?_; clear H a; intro a H
    refine still_does H rfl (does_neq rfl rfl) ?_; clear H a; intro a H
    refine wpStill_nil (hK4 _ ?_)
    clear hK4 K4
    refine cond_ H rfl (fun hc1 => ?_) (fun hc1 => ?_)
    · try simp only [Bool.or_eq_true, Bool.and_eq_true, Bool.not_eq_true', Bool.or_eq_false_iff, Bool.and_eq_false_iff, Bool.not_eq_false', decide_eq_true_eq, decide_eq_false_iff_not, Int.not_lt, Int.not_le] at hc1
      replace H := H.keep [13] rfl
      refine seq_still (fun K5 hK5 => ?_)
      refine still_does H rfl (does_move rfl) ?_; clear H a; intro a H
      refine still_does H rfl (does_assign rfl) ?_; clear H a; intro a H
      refine still_does H rfl (does_assign rfl) ?_; clear H a; intro a H
      refine wpStill_nil (hK5 _ ?_)
      clear hK5 K5
      refine wp_ret ?_
      refine ret2 (fn := Try.f21) rfl H rfl rfl ?_
      rw [show witO (⟨links, pitch, limit⟩ : Chain) l xa xb len = .error e from by unfold witO; rw [hW]]; exact ⟨rfl, (S.sel [] rfl rfl)⟩
    · try simp only [Bool.or_eq_true, Bool.and_eq_true, Bool.not_eq_true', Bool.or_eq_false_iff, Bool.and_eq_false_iff, Bool.not_eq_false', decide_eq_true_eq, decide_eq_false_iff_not, Int.not_lt, Int.not_le] at hc1
      all_goals (exfalso; omega)
  · skip
    have hG := wholeO_good hW; have hC := hG.2; unfold chainOk at hC; simp only [decide_eq_true_eq] at hC
    obtain ⟨m, rfl⟩ := Int.eq_ofNat_of_zero_le (show 0 ≤ links by omega)
    have hG1 : Good (m + 1) M := hG.1; have hB : bdd (m + 1) 2199023255552 M := hG1.bdd; have hW1 := wholeO_ok hW
    have hAB := hW1.2.1; unfold isRunB at hAB; simp only [Bool.and_eq_true, decide_eq_true_eq] at hAB; obtain ⟨x1, rfl⟩ := Int.eq_ofNat_of_zero_le hAB.1.1; obtain ⟨x2, rfl⟩ := Int.eq_ofNat_of_zero_le (show 0 ≤ xb by omega)
    have hbig : bdd (m + 1) 4611686018427387904 M := fun x y hx hy => by have := hB x y hx hy; omega
    have hk0 := checkE_ok hW1.1; have hC0 := hk0.1; have hg0 := hk0.2.2
    replace H := H.keep [1, 2, 3, 4, 5] rfl
    refine seq_list (fun K6 hK6 => ?_)
    refine list_does H rfl (by first | exact does_loadBox agg_23 sz_23 rfl S (i := 0) rfl rfl) ?_; clear H a; intro a H
    refine list_does H rfl (does_move rfl) ?_; clear H a; intro a H
    refine list_does H rfl (does_move rfl) ?_; clear H a; intro a H
    refine list_does H rfl (does_move rfl) ?_; clear H a; intro a H
    refine list_call H rfl rfl Try.func65 rfl rfl (ret_imp (ref_checked m pitch limit l A cp x1 x2 _ (hl.now S) hn) (fun _ _ => net_ok (n := m + 1) hW)) ?_; clear H a
    rintro _ _ a ⟨W, cw, rb, rc, rfl, S2⟩ H
    replace S := S.call S2; clear S2
    refine list_does H rfl (does_move rfl) ?_; clear H a; intro a H
    refine list_does H rfl (does_extract rfl rfl) ?_; clear H a; intro a H
    refine list_does H rfl (does_extract rfl rfl) ?_; clear H a; intro a H
    refine list_does H rfl (does_assign rfl) ?_; clear H a; intro a H
    refine list_does H rfl (does_assign rfl) ?_; clear H a; intro a H
    refine hK6 _ _ ?_
    clear hK6 K6
    refine wp_seq_k (fun K7 hK7 => ?_)
    replace H := H.keep [1, 2, 3, 4, 5, 12, 13] rfl
    refine seq_still (fun K8 hK8 => ?_)
    refine still_does H rfl (does_move rfl) ?_; clear H a; intro a H
    refine still_does H rfl (does_neq rfl rfl) ?_; clear H a; intro a H
    refine wpStill_nil (hK8 _ ?_)
    clear hK8 K8
    refine cond_ H rfl (fun hc2 => ?_) (fun hc2 => ?_)
    · try simp only [Bool.or_eq_true, Bool.and_eq_true, Bool.not_eq_true', Bool.or_eq_false_iff, Bool.and_eq_false_iff, Bool.not_eq_false', decide_eq_true_eq, decide_eq_false_iff_not, Int.not_lt, Int.not_le] at hc2
      all_goals first | (exfalso; omega) | (simp at hc2)
    · try simp only [Bool.or_eq_true, Bool.and_eq_true, Bool.not_eq_true', Bool.or_eq_false_iff, Bool.and_eq_false_iff, Bool.not_eq_false', decide_eq_true_eq, decide_eq_false_iff_not, Int.not_lt, Int.not_le] at hc2
      refine wp_skip ?_
      refine hK7 _ _ ?_
      refine wp_seq_k (fun K9 hK9 => ?_)
      replace H := H.keep [1, 2, 3, 4, 5, 12] rfl
      refine seq_list (fun K10 hK10 => ?_)
      refine list_does H rfl (does_move rfl) ?_; clear H a; intro a H
      refine list_does H rfl (does_move rfl) ?_; clear H a; intro a H
      refine list_does H rfl (does_move rfl) ?_; clear H a; intro a H
      have S1 := (S.sel [0, 1] rfl rfl)
      refine list_call H rfl rfl Try.func66 rfl rfl (net_run (m + 1) cw W rb rc M x1 x2 _ _ S1.startR (by omega) (by omega) hbig) ?_; clear H a
      rintro _ _ a ⟨rfl, S2⟩ H
      replace S := (S.sel [0, 1, 2] rfl rfl).callR (M := [_, _]) S2; clear S1 S2
      refine list_alloc H rfl S ze_42 ?_; clear H a S; intro b14 _ a hb14 hbw14 S H
      first | (refine list_store H S (i := 0) rfl rfl rfl rfl sz_42 rfl rfl ?_) | (refine list_store H S (i := 1) rfl rfl rfl rfl sz_42 rfl rfl ?_) | (refine list_store H S (i := 2) rfl rfl rfl rfl sz_42 rfl rfl ?_) | (refine list_store H S (i := 3) rfl rfl rfl rfl sz_42 rfl rfl ?_) | (refine list_store_own H S (i := 0) rfl rfl rfl (by omega) (by omega) sz_42 rfl ?_) | (refine list_store_own H S (i := 1) rfl rfl rfl (by omega) (by omega) sz_42 rfl ?_) | (refine list_store_own H S (i := 2) rfl rfl rfl (by omega) (by omega) sz_42 rfl ?_) | (refine list_store_own H S (i := 3) rfl rfl rfl (by omega) (by omega) sz_42 rfl ?_)
      clear H a S; intro _ a S H
      refine hK10 _ _ ?_
      clear hK10 K10
      replace H := H.keep [1, 2, 3, 4, 5, 14] rfl
      refine seq_still (fun K11 hK11 => ?_)
      refine still_does H rfl (does_move rfl) ?_; clear H a; intro a H
      refine still_does H rfl (by first | exact does_field_pt fo_42_0 rfl | exact does_field fo_42_0 rfl) ?_; clear H a; intro a H
      refine still_does H rfl (does_load one_3 rfl (by first | exact boxM.rd S (i := 0) rfl rfl | exact boxM.rd S (i := 1) rfl rfl | exact boxM.rd S (i := 2) rfl rfl | exact boxM.rd S (i := 3) rfl rfl)) ?_; clear H a; intro a H
      refine still_does H rfl (by first | exact does_field_pt fo_42_1 rfl | exact does_field fo_42_1 rfl) ?_; clear H a; intro a H
      refine still_does H rfl (does_load one_3 rfl (by first | exact boxM.rd S (i := 0) rfl rfl | exact boxM.rd S (i := 1) rfl rfl | exact boxM.rd S (i := 2) rfl rfl | exact boxM.rd S (i := 3) rfl rfl)) ?_; clear H a; intro a H
      refine still_call H rfl rfl Try.func67 rfl rfl (ref_from _ _ _ _) ?_; clear H a; intro a H
      refine still_does H rfl (does_not rfl) ?_; clear H a; intro a H
      refine wpStill_nil (hK11 _ ?_)
      clear hK11 K11
      refine cond_ H rfl (fun hc3 => ?_) (fun hc3 => ?_)
      · try simp only [Bool.or_eq_true, Bool.and_eq_true, Bool.not_eq_true', Bool.or_eq_false_iff, Bool.and_eq_false_iff, Bool.not_eq_false', decide_eq_true_eq, decide_eq_false_iff_not, Int.not_lt, Int.not_le] at hc3
        replace H := H.keep [] rfl
        refine seq_still (fun K12 hK12 => ?_)
        refine still_does H rfl (does_assign rfl) ?_; clear H a; intro a H
        refine still_does H rfl (does_assign rfl) ?_; clear H a; intro a H
        refine wpStill_nil (hK12 _ ?_)
        clear hK12 K12
        refine wp_ret ?_
        refine ret2 (fn := Try.f21) rfl H rfl rfl ?_
        rw [show witO ⟨m, pitch, limit⟩ l x1 x2 len = .error 1 from by unfold witO; rw [hW]; exact if_neg (show ¬ (-(M x2 x1) ≤ len ∧ len ≤ M x1 x2) by omega)]; exact ⟨rfl, (S.sel [] rfl rfl)⟩
      · try simp only [Bool.or_eq_true, Bool.and_eq_true, Bool.not_eq_true', Bool.or_eq_false_iff, Bool.and_eq_false_iff, Bool.not_eq_false', decide_eq_true_eq, decide_eq_false_iff_not, Int.not_lt, Int.not_le] at hc3
        refine wp_skip ?_
        refine hK9 _ _ ?_
        replace H := H.keep [1, 2, 3, 4, 5] rfl
        refine seq_list (fun K13 hK13 => ?_)
        refine list_build0 H rfl S sl_24 sz_48 (gcell l) ?_; clear H a S; intro A1 _ a S H
        refine list_does H rfl (does_move rfl) ?_; clear H a; intro a H
        refine list_append H rfl S sl_24 sz_48 ze_48 by_48 rfl rfl (i := 0) rfl rfl rfl (hl.now S) (gcell_one l) (by omega) (by omega) ?_; clear H a S; intro A2 c2 _ a S H
        rw [Nat.zero_add] at H
        replace S := S.recell (i := 0) (cell' := gcell l) (by rw [Nat.zero_add]; rfl) (fun k j hk hj => by unfold capp; rw [if_neg (by omega)]; rfl)
        refine list_does H rfl (does_assign rfl) ?_; clear H a; intro a H
        refine hK13 _ _ ?_
        clear hK13 K13
        have SR := (S.sel [1, 2, 3, 4] rfl rfl)
        refine meet_sr (X := Option Addr × Nat × Nat) [5] H rfl (fun ⟨A', n', c'⟩ => [(15, .slice A' n' c')]) (fun ⟨A', n', c'⟩ => [ownM 48 4 A' n' c' (gcell (more0 l x1 x2 len))]) (fun ⟨A', n', c'⟩ => n' = (more0 l x1 x2 len).length) SR (fun K15 hK15 => ?_) ?_
        · skip
          replace H := H.keep [2, 3, 4, 5, 15] rfl
          refine seq_still (fun K16 hK16 => ?_)
          refine still_does H rfl (does_move rfl) ?_; clear H a; intro a H
          refine still_does H rfl (does_move rfl) ?_; clear H a; intro a H
          refine still_does H rfl (does_lss rfl rfl) ?_; clear H a; intro a H
          refine wpStill_nil (hK16 _ ?_)
          clear hK16 K16
          refine cond_ H rfl (fun hc4 => ?_) (fun hc4 => ?_)
          · try simp only [Bool.or_eq_true, Bool.and_eq_true, Bool.not_eq_true', Bool.or_eq_false_iff, Bool.and_eq_false_iff, Bool.not_eq_false', decide_eq_true_eq, decide_eq_false_iff_not, Int.not_lt, Int.not_le] at hc4
            replace H := H.keep [2, 3, 4, 5, 15] rfl
            refine one_list ?_
            refine list_does H rfl (does_move rfl) ?_; clear H a; intro a H
            refine list_does H rfl (does_move rfl) ?_; clear H a; intro a H
            refine list_does H rfl (does_move rfl) ?_; clear H a; intro a H
            refine list_does H rfl (does_move rfl) ?_; clear H a; intro a H
            refine list_does H rfl (does_move rfl) ?_; clear H a; intro a H
            refine list_does H rfl (does_build bt_42 rfl rfl) ?_; clear H a; intro a H
            refine list_does H rfl (does_build bt_48 rfl rfl) ?_; clear H a; intro a H
            refine list_build' H rfl S sl_24 sz_48 ze_48 rfl rfl rfl rfl rfl rfl rfl rfl rfl ?_; clear H a S; intro A3 _ a hA3 S H
            refine list_append H rfl S sl_24 sz_48 ze_48 by_48 rfl rfl (i := 1) rfl rfl rfl (ownM.inS S (i := 0) rfl) (one_vs (four rfl rfl rfl rfl)) (by omega) (by omega) ?_; clear H a S; intro A4 c4 _ a S H
            replace S := S.recell (i := 1) rfl (gcell_app (g := ⟨x1, x2, len, len⟩) (four rfl rfl rfl rfl))
            refine list_does H rfl (does_assign rfl) ?_; clear H a; intro a H
            have e9 : more0 l x1 x2 len = l ++ [⟨x1, x2, len, len⟩] := by unfold more0; rw [if_pos (by omega)]
            rw [← e9] at S
            exact hK15 (_, _, _) a _ (by rw [e9, List.length_append]; rfl) (S.sel [1, 2, 3, 4, 5] rfl rfl) (H.keep [15, 5] rfl)
          · try simp only [Bool.or_eq_true, Bool.and_eq_true, Bool.not_eq_true', Bool.or_eq_false_iff, Bool.and_eq_false_iff, Bool.not_eq_false', decide_eq_true_eq, decide_eq_false_iff_not, Int.not_lt, Int.not_le] at hc4
            refine wp_skip ?_
            have e9 : more0 l x1 x2 len = l := by unfold more0; rw [if_neg (by omega)]
            replace S := S.recell (i := 0) (cell' := gcell (more0 l x1 x2 len)) rfl (fun _ _ _ _ => by rw [e9])
            exact hK15 (_, _, _) a _ (by rw [e9]) (S.sel [0, 1, 2, 3, 4] rfl rfl) (H.keep [15, 5] rfl)
        · intro xm a wm hp S H
          obtain ⟨A', n', c'⟩ := xm
          clear SR
          have hGs := witS_good (len := len) hG1 (a := x1) (b := x2) (by omega) (by omega) (by omega) (by omega)
          have hn0 := hp
          skip
          replace H := H.keep [5, 15] rfl
          refine seq_still (fun K18 hK18 => ?_)
          refine still_does H rfl (does_assign rfl) ?_; clear H a; intro a H
          refine wpStill_nil (hK18 _ ?_)
          clear hK18 K18
          refine wp_seq_k (fun K19 hK19 => ?_)
          replace H := H.keep [5, 15, 16] rfl
          refine seq_still (fun K20 hK20 => ?_)
          refine still_does H rfl (does_assign rfl) ?_; clear H a; intro a H
          refine wpStill_nil (hK20 _ ?_)
          clear hK20 K20
          refine wp_block ?_
          have e8 : moreK (more0 l x1 x2 len) (witN (witS M x1 x2 len)) 0 = (more0 l x1 x2 len) := by unfold moreK; simp
          replace S := S.recell (i := 0) rfl (cell' := gcell (moreK (more0 l x1 x2 len) (witN (witS M x1 x2 len)) 0)) (fun _ _ _ _ => by rw [e8])
          replace S := S.newNil 3 1 (fun q _ => .int .i64 ((witN (witS M x1 x2 len)) q))
          refine loop_st (X := Nat × Option Addr × Nat × Nat × Option Addr × Nat) (R0 := _) [5] H rfl (fun ⟨k, A', n', c', A2, c2⟩ => [(15, .slice A' n' c'), (16, .slice A2 k c2), (17, .int .i64 (k : Int))]) (fun ⟨k, A', n', c', A2, c2⟩ => [ownM 48 4 A' n' c' (gcell (moreK (more0 l x1 x2 len) (witN (witS M x1 x2 len)) k)), ownM 3 1 A2 k c2 (fun q _ => .int .i64 ((witN (witS M x1 x2 len)) q))]) (fun g ⟨k, A', n', c', A2, c2⟩ => k ≤ m ∧ g + k = m ∧ n' = (moreK (more0 l x1 x2 len) (witN (witS M x1 x2 len)) k).length) (m) (0, A', n', c', none, 0) ?_ (S.sel [1, 0, 2, 3, 4, 5] rfl rfl) (H.keep [15, 16, 17, 5] rfl) ?_
          · exact ⟨by omega, by omega, by rw [e8]; exact hn0⟩
          · intro g1 x1 a w1 hp S H K21 hK21
            obtain ⟨k, A', n', c', A2, c2⟩ := x1
            dsimp only at hp S H
            have hn' := hp.2.2
            subst hn'
            refine wp_seq_k (fun K22 hK22 => ?_)
            replace H := H.keep [5, 15, 16, 17] rfl
            refine seq_still (fun K23 hK23 => ?_)
            refine still_does H rfl (does_move rfl) ?_; clear H a; intro a H
            refine still_does H rfl (by first | exact does_field_pt fo_23_0 rfl | exact does_field fo_23_0 rfl) ?_; clear H a; intro a H
            refine still_does H rfl (does_load one_3 rfl (by first | exact boxM.rd S (i := 0) rfl rfl | exact boxM.rd S (i := 1) rfl rfl | exact boxM.rd S (i := 2) rfl rfl | exact boxM.rd S (i := 3) rfl rfl | exact boxM.rd S (i := 4) rfl rfl | exact boxM.rd S (i := 5) rfl rfl)) ?_; clear H a; intro a H
            refine still_does H rfl (does_lss rfl rfl) ?_; clear H a; intro a H
            refine wpStill_nil (hK23 _ ?_)
            clear hK23 K23
            refine cond_ H rfl (fun hc5 => ?_) (fun hc5 => ?_)
            · try simp only [Bool.or_eq_true, Bool.and_eq_true, Bool.not_eq_true', Bool.or_eq_false_iff, Bool.and_eq_false_iff, Bool.not_eq_false', decide_eq_true_eq, decide_eq_false_iff_not, Int.not_lt, Int.not_le] at hc5
              refine wp_skip ?_
              refine hK22 _ _ ?_
              refine wp_seq_k (fun K24 hK24 => ?_)
              refine wp_block ?_
              have hwm := wit_more (c := ⟨m, pitch, limit⟩) hC0 hg0 hW1.2.2 (a := x1) (b := x2) (len := len) (by omega) (show x2 ≤ m by omega) (by omega) (by omega) k (show k ≤ m by omega)
              have hGk := witM_good hGs k (by omega); have hll := hk0.2.1
              have hmll : (moreK (more0 l x1 x2 len) (witN (witS M x1 x2 len)) k).length ≤ 1000 := by
                unfold moreK more0; rw [List.length_append, List.length_map, List.length_range]; split
                · rw [List.length_append]; simp only [List.length_cons, List.length_nil]; omega
                · omega
              replace H := H.keep [5, 15, 16, 17] rfl
              refine seq_list (fun K25 hK25 => ?_)
              refine list_does H rfl (by first | exact does_loadBox agg_23 sz_23 rfl S (i := 0) rfl rfl | exact does_loadBox agg_23 sz_23 rfl S (i := 1) rfl rfl | exact does_loadBox agg_23 sz_23 rfl S (i := 2) rfl rfl | exact does_loadBox agg_23 sz_23 rfl S (i := 3) rfl rfl | exact does_loadBox agg_23 sz_23 rfl S (i := 4) rfl rfl | exact does_loadBox agg_23 sz_23 rfl S (i := 5) rfl rfl) ?_; clear H a; intro a H
              refine list_does H rfl (does_move rfl) ?_; clear H a; intro a H
              refine list_call H rfl rfl Try.func68 rfl rfl (ret_imp (ref_buildI m pitch limit (moreK (more0 l x1 x2 len) (witN (witS M x1 x2 len)) k) A' c' _ hC0 (by omega) hwm.1 (ownM.inS S (i := 0) rfl)) (fun _ _ => built_some (n := m + 1) hwm.2)) ?_; clear H a
              rintro _ _ a ⟨W2, cw2, rb2, rc2, rfl, S2⟩ H
              replace S := S.call S2; clear S2
              refine list_does H rfl (does_move rfl) ?_; clear H a; intro a H
              refine list_does H rfl (does_extract rfl rfl) ?_; clear H a; intro a H
              refine list_does H rfl (does_extract rfl rfl) ?_; clear H a; intro a H
              refine list_does H rfl (does_assign rfl) ?_; clear H a; intro a H
              refine hK25 _ _ ?_
              clear hK25 K25
              replace H := H.keep [5, 12, 15, 16, 17] rfl
              refine seq_list (fun K26 hK26 => ?_)
              refine list_does H rfl (does_move rfl) ?_; clear H a; intro a H
              refine list_does H rfl (does_move rfl) ?_; clear H a; intro a H
              refine list_does H rfl (does_move rfl) ?_; clear H a; intro a H
              refine list_does H rfl (does_add rfl rfl (by unfold i64ok; omega)) ?_; clear H a; intro a H
              have S1 := (S.sel [0, 1] rfl rfl)
              refine list_call H rfl rfl Try.func66 rfl rfl (net_run (m + 1) cw2 W2 rb2 rc2 (witM (witS M x1 x2 len) k) k (k + 1) _ _ S1.startR (by omega) (by omega) (fun x y hx hy => by have := hGk.bdd x y hx hy; omega)) ?_; clear H a
              rintro _ _ a ⟨rfl, S2⟩ H
              replace S := (S.sel [0, 1, 2, 3, 4, 5, 6, 7] rfl rfl).callR (M := [_, _]) S2; clear S1 S2
              refine list_does H rfl (does_fieldv Try.underlying42 rfl one_3 rfl rfl) ?_; clear H a; intro a H
              refine list_does H rfl (does_assign rfl) ?_; clear H a; intro a H
              refine hK26 _ _ ?_
              clear hK26 K26
              replace H := H.keep [5, 15, 16, 17, 18] rfl
              refine seq_list (fun K27 hK27 => ?_)
              refine list_does H rfl (does_move rfl) ?_; clear H a; intro a H
              refine list_does H rfl (does_move rfl) ?_; clear H a; intro a H
              refine list_build' H rfl S sl_29 sz_3 ze_3 rfl rfl rfl rfl rfl rfl rfl rfl rfl ?_; clear H a S; intro A5 _ a hA5 S H
              refine list_append H rfl S sl_29 sz_3 ze_3 by_3 rfl rfl (i := 4) rfl rfl rfl (ownM.inS S (i := 0) rfl) (one_vs (one rfl)) (by omega) (by omega) ?_; clear H a S; intro A6 c6 _ a S H
              replace S := S.recell (i := 4) rfl (capp_one (one rfl))
              refine list_does H rfl (does_assign rfl) ?_; clear H a; intro a H
              refine hK27 _ _ ?_
              clear hK27 K27
              replace H := H.keep [5, 15, 16, 17, 18] rfl
              refine one_list ?_
              refine list_does H rfl (does_move rfl) ?_; clear H a; intro a H
              refine list_does H rfl (does_move rfl) ?_; clear H a; intro a H
              refine list_does H rfl (does_move rfl) ?_; clear H a; intro a H
              refine list_does H rfl (does_add rfl rfl (by unfold i64ok; omega)) ?_; clear H a; intro a H
              refine list_does H rfl (does_move rfl) ?_; clear H a; intro a H
              refine list_does H rfl (does_move rfl) ?_; clear H a; intro a H
              refine list_does H rfl (does_build bt_42 rfl rfl) ?_; clear H a; intro a H
              refine list_does H rfl (does_build bt_48 rfl rfl) ?_; clear H a; intro a H
              refine list_build' H rfl S sl_24 sz_48 ze_48 rfl rfl rfl rfl rfl rfl rfl rfl rfl ?_; clear H a S; intro A7 _ a hA7 S H
              refine list_append H rfl S sl_24 sz_48 ze_48 by_48 rfl rfl (i := 4) rfl rfl rfl (ownM.inS S (i := 0) rfl) (one_vs (four rfl rfl rfl rfl)) (by omega) (by omega) ?_; clear H a S; intro A8 c8 _ a S H
              replace S := S.recell (i := 4) rfl (gcell_app (g := pinG k (witN (witS M x1 x2 len) k)) (four rfl rfl rfl rfl))
              rw [← moreK_succ] at S
              refine list_does H rfl (does_assign rfl) ?_; clear H a; intro a H
              refine hK24 _ _ ?_
              replace H := H.keep [5, 15, 16, 17] rfl
              refine one_still ?_
              refine still_does H rfl (does_move rfl) ?_; clear H a; intro a H
              refine still_does H rfl (does_add rfl rfl (by unfold i64ok; omega)) ?_; clear H a; intro a H
              refine still_does H rfl (does_assign rfl) ?_; clear H a; intro a H
              refine wpStill_nil ?_
              exact hK21 (g1 - 1) (k + 1, _, _, _, _, _) a _ (by omega) (⟨by omega, by omega, by rw [moreK_succ, List.length_append]; rfl⟩) (S.sel [4, 5, 6, 7, 8, 9] rfl rfl) (H.keep [15, 16, 17, 5] rfl)
            · try simp only [Bool.or_eq_true, Bool.and_eq_true, Bool.not_eq_true', Bool.or_eq_false_iff, Bool.and_eq_false_iff, Bool.not_eq_false', decide_eq_true_eq, decide_eq_false_iff_not, Int.not_lt, Int.not_le] at hc5
              refine wp_exit ?_
              refine hK19 _ _ ?_
              replace H := H.keep [16] rfl
              refine seq_still (fun K30 hK30 => ?_)
              refine still_does H rfl (does_move rfl) ?_; clear H a; intro a H
              refine still_does H rfl (does_assign rfl) ?_; clear H a; intro a H
              refine still_does H rfl (does_assign rfl) ?_; clear H a; intro a H
              refine wpStill_nil (hK30 _ ?_)
              clear hK30 K30
              refine wp_ret ?_
              refine ret2 (fn := Try.f21) rfl H rfl rfl ?_
              have hk9 : m = k := by omega
              subst hk9
              rw [show witO ⟨m, pitch, limit⟩ l x1 x2 len = .ok (witN (witS M x1 x2 len)) from by unfold witO; rw [hW]; exact if_pos (show (-(M x2 x1) ≤ len ∧ len ≤ M x1 x2) by omega)]; exact ⟨A2, c2, rfl, (S.sel [1] rfl rfl)⟩

end Go.Proofs.Ytlejjfhgfajoiaa
