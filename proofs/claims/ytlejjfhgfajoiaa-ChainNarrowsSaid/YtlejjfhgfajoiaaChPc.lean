/- ChPc. Printed by gen.py. -/
import Derived.Test.YtlejjfhgfajoiaaChPb
namespace Go.Proofs.Ytlejjfhgfajoiaa
open Go.RowKit
set_option linter.unusedVariables false
set_option linter.unusedSimpArgs false


set_option maxRecDepth 100000 in
set_option maxHeartbeats 1000000 in
theorem ref_CopyUses (l : List Use) (A : Option Addr) (cp : Nat) (w : World) (hl : InS w noF 6 A l.length (ucell l)) (hn : l.length * 48 ≤ 140737488351232) :
    Calls Try.prog 38 [.slice A l.length cp].toArray w (Ret (fun v w' => ∃ A' c', v = .slice A' l.length c' ∧ St w noF [ownM 70 6 A' l.length c' (ucell l)] w')) := by
  have hmx : maxLen = 9223372036854775807 := rfl
  refine enter Try.func38 rfl Try.ntmps38 rfl (fun a H => ?_)
  have S := St.start w
  refine seq_still (fun K1 hK1 => ?_)
  refine still_does H rfl (does_assign rfl) ?_; clear H a; intro a H
  refine wpStill_nil (hK1 _ ?_)
  clear hK1 K1
  replace H := H.keep [0] rfl
  refine seq_list (fun K2 hK2 => ?_)
  refine list_build0 H rfl S sl_63 sz_70 (ucell l) ?_; clear H a S; intro A1 _ a S H
  refine list_does H rfl (does_move rfl) ?_; clear H a; intro a H
  refine list_append H rfl S sl_63 sz_70 ze_70 by_70 rfl rfl (i := 0) rfl rfl rfl (hl.now S) (ucell_ones l) (by omega) (by omega) ?_; clear H a S; intro A2 c2 _ a S H
  rw [Nat.zero_add] at H
  replace S := S.recell (i := 0) (cell' := ucell l) (by rw [Nat.zero_add]; rfl) (fun k j hk hj => by unfold capp; rw [if_neg (by omega)]; rfl)
  refine list_does H rfl (does_assign rfl) ?_; clear H a; intro a H
  refine hK2 _ _ ?_
  clear hK2 K2
  refine wp_ret ?_
  refine ret1 (fn := Try.f38) rfl H rfl ?_
  exact ⟨_, _, rfl, (S.sel [0] rfl rfl)⟩

set_option maxRecDepth 100000 in
set_option maxHeartbeats 1000000 in
theorem ref_Copy (rates : List (Int × Int)) (pwn ptn pag : Int) (RA : Option Addr) (rcp : Nat) (w : World) (hr : InS w noF 2 RA rates.length (scell rates)) (hrn : rates.length * 16 ≤ 140737488351232) :
    Calls Try.prog 41 [.agg [.slice RA rates.length rcp, .int .i64 pwn, .int .i64 ptn, .int .i64 pag].toArray].toArray w (Ret (fun v w' => ∃ A' c', v = .agg [.slice A' rates.length c', .int .i64 pwn, .int .i64 ptn, .int .i64 pag].toArray ∧ St w noF [ownM 42 2 A' rates.length c' (scell rates)] w')) := by
  have hmx : maxLen = 9223372036854775807 := rfl
  refine enter Try.func41 rfl Try.ntmps41 rfl (fun a H => ?_)
  have S := St.start w
  refine seq_list (fun K1 hK1 => ?_)
  refine list_box H rfl S rfl rfl ?_; clear H a S; intro b1 _ a hb1 hbw1 S H
  refine list_alloc H rfl S ze_62 ?_; clear H a S; intro b2 _ a hb2 hbw2 S H
  refine hK1 _ _ ?_
  clear hK1 K1
  replace H := H.keep [1, 2] rfl
  refine seq_list (fun K2 hK2 => ?_)
  refine list_does H rfl (by first | exact does_loadBox agg_62 sz_62 rfl S (i := 0) rfl rfl | exact does_loadBox agg_62 sz_62 rfl S (i := 1) rfl rfl) ?_; clear H a; intro a H
  refine list_alloc H rfl S ze_62 ?_; clear H a S; intro b3 _ a hb3 hbw3 S H
  first | (refine list_store H S (i := 0) rfl rfl rfl rfl sz_62 rfl rfl ?_) | (refine list_store H S (i := 1) rfl rfl rfl rfl sz_62 rfl rfl ?_) | (refine list_store H S (i := 2) rfl rfl rfl rfl sz_62 rfl rfl ?_) | (refine list_store_own H S (i := 0) rfl rfl rfl (by omega) (by omega) sz_62 rfl ?_) | (refine list_store_own H S (i := 1) rfl rfl rfl (by omega) (by omega) sz_62 rfl ?_) | (refine list_store_own H S (i := 2) rfl rfl rfl (by omega) (by omega) sz_62 rfl ?_)
  clear H a S; intro _ a S H
  refine hK2 _ _ ?_
  clear hK2 K2
  replace H := H.keep [1, 2, 3] rfl
  refine seq_list (fun K3 hK3 => ?_)
  refine list_build0 H rfl S sl_37 sz_42 (scell rates) ?_; clear H a S; intro A1 _ a S H
  refine list_does H rfl (by first | exact does_field_pt fo_62_0 rfl | exact does_field fo_62_0 rfl) ?_; clear H a; intro a H
  refine list_does H rfl (does_load one_37 rfl (by first | exact boxM.rd S (i := 0) rfl rfl | exact boxM.rd S (i := 1) rfl rfl | exact boxM.rd S (i := 2) rfl rfl | exact boxM.rd S (i := 3) rfl rfl)) ?_; clear H a; intro a H
  refine list_append H rfl S sl_37 sz_42 ze_42 by_42 rfl rfl (i := 0) rfl rfl rfl (hr.now S) (scell_ones rates) (by omega) (by omega) ?_; clear H a S; intro A2 c2 _ a S H
  rw [Nat.zero_add] at H
  replace S := S.recell (i := 0) (cell' := scell rates) (by rw [Nat.zero_add]; rfl) (fun k j hk hj => by unfold capp; rw [if_neg (by omega)]; rfl)
  refine list_does H rfl (by first | exact does_field_pt fo_62_0 rfl | exact does_field fo_62_0 rfl) ?_; clear H a; intro a H
  first | (refine list_store H S (i := 0) rfl rfl rfl rfl sz_37 rfl rfl ?_) | (refine list_store H S (i := 1) rfl rfl rfl rfl sz_37 rfl rfl ?_) | (refine list_store H S (i := 2) rfl rfl rfl rfl sz_37 rfl rfl ?_) | (refine list_store H S (i := 3) rfl rfl rfl rfl sz_37 rfl rfl ?_) | (refine list_store_own H S (i := 0) rfl rfl rfl (by omega) (by omega) sz_37 rfl ?_) | (refine list_store_own H S (i := 1) rfl rfl rfl (by omega) (by omega) sz_37 rfl ?_) | (refine list_store_own H S (i := 2) rfl rfl rfl (by omega) (by omega) sz_37 rfl ?_) | (refine list_store_own H S (i := 3) rfl rfl rfl (by omega) (by omega) sz_37 rfl ?_)
  clear H a S; intro _ a S H
  refine hK3 _ _ ?_
  clear hK3 K3
  replace H := H.keep [2, 3] rfl
  refine seq_list (fun K4 hK4 => ?_)
  refine list_does H rfl (by first | exact does_loadBox agg_62 sz_62 rfl S (i := 0) rfl rfl | exact does_loadBox agg_62 sz_62 rfl S (i := 1) rfl rfl | exact does_loadBox agg_62 sz_62 rfl S (i := 2) rfl rfl | exact does_loadBox agg_62 sz_62 rfl S (i := 3) rfl rfl) ?_; clear H a; intro a H
  first | (refine list_store H S (i := 0) rfl rfl rfl rfl sz_62 rfl rfl ?_) | (refine list_store H S (i := 1) rfl rfl rfl rfl sz_62 rfl rfl ?_) | (refine list_store H S (i := 2) rfl rfl rfl rfl sz_62 rfl rfl ?_) | (refine list_store H S (i := 3) rfl rfl rfl rfl sz_62 rfl rfl ?_) | (refine list_store_own H S (i := 0) rfl rfl rfl (by omega) (by omega) sz_62 rfl ?_) | (refine list_store_own H S (i := 1) rfl rfl rfl (by omega) (by omega) sz_62 rfl ?_) | (refine list_store_own H S (i := 2) rfl rfl rfl (by omega) (by omega) sz_62 rfl ?_) | (refine list_store_own H S (i := 3) rfl rfl rfl (by omega) (by omega) sz_62 rfl ?_)
  clear H a S; intro _ a S H
  refine hK4 _ _ ?_
  clear hK4 K4
  refine wp_ret ?_
  refine retA (fn := Try.f41) rfl H rfl agg_62 (by exact sz_62) (boxAgg S (i := 2) rfl) ?_
  exact ⟨_, _, rfl, (S.sel [0] rfl rfl)⟩

theorem any_take {l : List Use} {k : Nat} (hk : k < l.length) (h : (l.take k).any (·.meas) = false) (hm : (l.getD k Use.zero).meas = false) : (l.take (k + 1)).any (·.meas) = false := by
  rw [List.take_succ_eq_append_getElem hk, List.any_append, h]
  simp only [List.getD_eq_getElem?_getD, List.getElem?_eq_getElem hk, Option.getD_some] at hm
  simp [hm]
theorem any_at {l : List Use} {k : Nat} (hk : k < l.length) (hm : (l.getD k Use.zero).meas = true) : l.any (·.meas) = true := by
  simp only [List.getD_eq_getElem?_getD, List.getElem?_eq_getElem hk, Option.getD_some] at hm
  exact List.any_eq_true.2 ⟨_, List.getElem_mem hk, hm⟩
theorem last_err {p : Part} {l plan : List Use} (h : checkP p (l ++ plan) ≠ 0) : lastO p l plan = (0, checkP p (l ++ plan)) := by unfold lastO; rw [if_pos h]
theorem last_arg {p : Part} {l plan : List Use} (h : checkP p (l ++ plan) = 0) (h1 : plan.any (·.meas) = true) : lastO p l plan = (0, 1) := by unfold lastO; rw [if_neg (by omega), if_pos h1]
theorem last_none {p : Part} {l plan : List Use} (h : checkP p (l ++ plan) = 0) (h1 : plan.any (·.meas) = false) (h2 : (beyondO p (l ++ plan) Prod.snd).2 ≠ 0) : lastO p l plan = (0, (beyondO p (l ++ plan) Prod.snd).2) := by unfold lastO; rw [if_neg (by omega), if_neg (by rw [h1]; simp), if_pos h2]
theorem last_is {p : Part} {l plan : List Use} (h : checkP p (l ++ plan) = 0) (h1 : plan.any (·.meas) = false) (h2 : (beyondO p (l ++ plan) Prod.snd).2 = 0) : lastO p l plan = if (beyondO p (l ++ plan) Prod.snd).1 < 0 then ((plan.length : Int), 0) else (max (-1) ((beyondO p (l ++ plan) Prod.snd).1 - l.length), 0) := by unfold lastO; rw [if_neg (by omega), if_neg (by rw [h1]; simp), if_neg (by omega)]
theorem beyond_bd {p : Part} {l : List Use} (e : Int × Int → Int) (hl : l.length ≤ 1000000) : -1 ≤ (beyondO p l e).1 ∧ (beyondO p l e).1 ≤ 1000000 := by
  unfold beyondO
  split
  · dsimp only; omega
  · dsimp only
    rcases firstO_cases (fun k => wornB p l k (e (wearAt p l k))) l.length with ⟨h, _⟩ | ⟨k, hk, h, _⟩ <;> rw [h] <;> omega
theorem beyond_err {p : Part} {l : List Use} (e : Int × Int → Int) : (beyondO p l e).2 = wearE p l := by
  unfold beyondO
  split
  · rfl
  · dsimp only; omega
theorem beyond_ok {p : Part} {l : List Use} (e : Int × Int → Int) (h : wearE p l = 0) : (beyondO p l e).1 = firstO (fun k => wornB p l k (e (wearAt p l k))) l.length := by
  unfold beyondO
  rw [if_neg (by omega)]


set_option maxRecDepth 100000 in
set_option maxHeartbeats 1000000 in
theorem chain_Last (rates : List (Int × Int)) (pwn ptn pag : Int) (RA : Option Addr) (rcp : Nat) (l : List Use) (A : Option Addr) (cp : Nat) (plan : List Use) (B : Option Addr) (cq : Nat) (w : World) (hr : InS w noF 2 RA rates.length (scell rates)) (hrn : rates.length ≤ 9223372036854775807) (hl : InS w noF 6 A l.length (ucell l)) (hn : l.length ≤ 9223372036854775807) (hpl : InS w noF 6 B plan.length (ucell plan)) (hsum : (l.length + plan.length) * 48 ≤ 140737488355328) (hpn : plan.length ≤ 9223372036854775807) :
    Calls Try.prog 55 [.agg [.slice RA rates.length rcp, .int .i64 pwn, .int .i64 ptn, .int .i64 pag].toArray, .slice A l.length cp, .slice B plan.length cq].toArray w (Ret (fun v w' => v = .tuple #[.int .i64 (lastO (⟨rates, pwn, ptn, pag⟩ : Part) l plan).1, .int .i64 (lastO (⟨rates, pwn, ptn, pag⟩ : Part) l plan).2] ∧ St w noF [] w')) := by
  have hmx : maxLen = 9223372036854775807 := rfl
  have hnn : (l ++ plan).length ≤ 9223372036854775807 := by rw [List.length_append]; omega
  refine enter Try.func55 rfl Try.ntmps55 rfl (fun a H => ?_)
  have S := St.start w
  refine seq_list (fun K1 hK1 => ?_)
  refine list_box H rfl S rfl rfl ?_; clear H a S; intro b3 _ a hb3 hbw3 S H
  refine list_does H rfl (does_assign rfl) ?_; clear H a; intro a H
  refine list_does H rfl (does_assign rfl) ?_; clear H a; intro a H
  refine hK1 _ _ ?_
  clear hK1 K1
  replace H := H.keep [1, 2, 3] rfl
  refine seq_list (fun K2 hK2 => ?_)
  refine list_build0 H rfl S sl_63 sz_70 (ucell l) ?_; clear H a S; intro A1 _ a S H
  refine list_does H rfl (does_move rfl) ?_; clear H a; intro a H
  refine list_append H rfl S sl_63 sz_70 ze_70 by_70 rfl rfl (i := 0) rfl rfl rfl (hl.now S) (ucell_ones l) (by omega) (by omega) ?_; clear H a S; intro A2 c2 _ a S H
  rw [Nat.zero_add] at H
  replace S := S.recell (i := 0) (cell' := ucell l) (by rw [Nat.zero_add]; rfl) (fun k j hk hj => by unfold capp; rw [if_neg (by omega)]; rfl)
  refine list_does H rfl (does_move rfl) ?_; clear H a; intro a H
  refine list_append H rfl S sl_63 sz_70 ze_70 by_70 rfl rfl (i := 0) rfl rfl rfl (hpl.now S) (ucell_ones plan) (by omega) (by omega) ?_; clear H a S; intro A3 c3 _ a S H
  replace S := S.recell (i := 0) rfl ucell_app
  rw [← List.length_append] at S H
  refine list_does H rfl (does_assign rfl) ?_; clear H a; intro a H
  refine hK2 _ _ ?_
  clear hK2 K2
  refine wp_seq_k (fun K3 hK3 => ?_)
  replace H := H.keep [1, 2, 3, 8] rfl
  refine seq_list (fun K4 hK4 => ?_)
  refine list_does H rfl (by first | exact does_loadIn agg_62 sz_62 rfl S hpl (by omega) (by omega) | exact does_loadBox agg_62 sz_62 rfl S (i := 0) rfl rfl | exact does_loadBox agg_62 sz_62 rfl S (i := 1) rfl rfl) ?_; clear H a; intro a H
  refine list_does H rfl (does_move rfl) ?_; clear H a; intro a H
  refine list_call H rfl rfl Try.func42 rfl rfl (chain_CheckPart rates pwn ptn pag RA rcp (l ++ plan) A3 c3 _ (hr.now S) hrn (ownM.inS S (i := 0) rfl) hnn) ?_; clear H a
  rintro _ _ a ⟨rfl, S2⟩ H
  replace S := S.call S2; clear S2
  refine list_does H rfl (does_assign rfl) ?_; clear H a; intro a H
  refine hK4 _ _ ?_
  clear hK4 K4
  replace H := H.keep [1, 2, 3, 8, 9] rfl
  refine seq_still (fun K5 hK5 => ?_)
  refine still_does H rfl (does_move rfl) ?_; clear H a; intro a H
  refine still_does H rfl (does_neq rfl rfl) ?_; clear H a; intro a H
  refine wpStill_nil (hK5 _ ?_)
  clear hK5 K5
  refine cond_ H rfl (fun hc1 => ?_) (fun hc1 => ?_)
  · try simp only [Bool.or_eq_true, Bool.and_eq_true, Bool.not_eq_true', Bool.or_eq_false_iff, Bool.and_eq_false_iff, Bool.not_eq_false', decide_eq_true_eq, decide_eq_false_iff_not, Int.not_lt, Int.not_le] at hc1
    replace H := H.keep [9] rfl
    refine seq_still (fun K6 hK6 => ?_)
    refine still_does H rfl (does_move rfl) ?_; clear H a; intro a H
    refine still_does H rfl (does_assign rfl) ?_; clear H a; intro a H
    refine still_does H rfl (does_assign rfl) ?_; clear H a; intro a H
    refine wpStill_nil (hK6 _ ?_)
    clear hK6 K6
    refine wp_ret ?_
    refine ret2 (fn := Try.f55) rfl H rfl rfl ?_
    rw [last_err (p := (⟨rates, pwn, ptn, pag⟩ : Part)) (by omega)]; exact ⟨rfl, (S.sel [] rfl rfl)⟩
  · try simp only [Bool.or_eq_true, Bool.and_eq_true, Bool.not_eq_true', Bool.or_eq_false_iff, Bool.and_eq_false_iff, Bool.not_eq_false', decide_eq_true_eq, decide_eq_false_iff_not, Int.not_lt, Int.not_le] at hc1
    refine wp_skip ?_
    refine hK3 _ _ ?_
    refine wp_seq_k (fun K7 hK7 => ?_)
    have h0 : checkP (⟨rates, pwn, ptn, pag⟩ : Part) (l ++ plan) = 0 := by omega
    have hok := checkP_ok h0; have hll := hok.len; have hbb := beyond_bd (p := (⟨rates, pwn, ptn, pag⟩ : Part)) (l := l ++ plan) Prod.snd (by omega)
    rw [List.length_append] at hll
    replace H := H.keep [1, 2, 3, 8] rfl
    refine seq_still (fun K8 hK8 => ?_)
    refine still_does H rfl (does_move rfl) ?_; clear H a; intro a H
    refine still_does H rfl (does_len sl_63 rfl) ?_; clear H a; intro a H
    refine still_does H rfl (does_move rfl) ?_; clear H a; intro a H
    refine wpStill_nil (hK8 _ ?_)
    clear hK8 K8
    refine wp_block ?_
    refine loop_st (X := Nat) (R0 := _) [1, 2, 3, 8, 25, 26] H rfl (fun k => [(27, .int .i64 (k : Int))]) (fun k => []) (fun g k => k ≤ plan.length ∧ g + k = plan.length ∧ (plan.take k).any (·.meas) = false) (plan.length) 0 ?_ (S.sel [0, 1] rfl rfl) (H.keep [27, 1, 2, 3, 8, 25, 26] rfl) ?_
    · exact ⟨by omega, by omega, rfl⟩
    · intro g1 x1 a w1 hp S H K9 hK9
      obtain ⟨k, rfl⟩ : ∃ y, y = x1 := ⟨_, rfl⟩
      skip
      replace H := H.keep [1, 2, 3, 8, 25, 26, 27] rfl
      refine seq_still (fun K10 hK10 => ?_)
      refine still_does H rfl (does_lss rfl rfl) ?_; clear H a; intro a H
      refine wpStill_nil (hK10 _ ?_)
      clear hK10 K10
      refine wp_seq_k (fun K11 hK11 => ?_)
      refine cond_ H rfl (fun hc2 => ?_) (fun hc2 => ?_)
      · try simp only [Bool.or_eq_true, Bool.and_eq_true, Bool.not_eq_true', Bool.or_eq_false_iff, Bool.and_eq_false_iff, Bool.not_eq_false', decide_eq_true_eq, decide_eq_false_iff_not, Int.not_lt, Int.not_le] at hc2
        refine wp_skip ?_
        refine hK11 _ _ ?_
        refine wp_seq_k (fun K12 hK12 => ?_)
        refine wp_block ?_
        replace H := H.keep [1, 2, 3, 8, 25, 26, 27] rfl
        refine seq_list (fun K13 hK13 => ?_)
        refine list_does H rfl (by first | exact does_indexN sl_63 sz_70 rfl rfl (by first | exact hpl.adr (by omega)) (by first | omega | omega) | exact does_index sl_63 sz_70 rfl rfl (by first | exact hpl.adr (by omega)) (by omega) (by first | omega | omega)) ?_; clear H a; intro a H
        refine list_does H rfl (by first | exact does_loadIn agg_70 sz_70 rfl S hpl (by omega) (by omega) | exact does_loadBox agg_70 sz_70 rfl S (i := 0) rfl rfl | exact does_loadBox agg_70 sz_70 rfl S (i := 1) rfl rfl) ?_; clear H a; intro a H
        refine list_alloc H rfl S ze_70 ?_; clear H a S; intro b11 _ a hb11 hbw11 S H
        first | (refine list_store H S (i := 0) rfl rfl rfl rfl sz_70 rfl rfl ?_) | (refine list_store H S (i := 1) rfl rfl rfl rfl sz_70 rfl rfl ?_) | (refine list_store H S (i := 2) rfl rfl rfl rfl sz_70 rfl rfl ?_) | (refine list_store_own H S (i := 0) rfl rfl rfl (by omega) (by omega) sz_70 rfl ?_) | (refine list_store_own H S (i := 1) rfl rfl rfl (by omega) (by omega) sz_70 rfl ?_) | (refine list_store_own H S (i := 2) rfl rfl rfl (by omega) (by omega) sz_70 rfl ?_)
        clear H a S; intro _ a S H
        refine hK13 _ _ ?_
        clear hK13 K13
        replace H := H.keep [1, 2, 3, 8, 11, 25, 26, 27] rfl
        refine seq_still (fun K14 hK14 => ?_)
        refine still_does H rfl (by first | exact does_field_pt fo_70_3 rfl | exact does_field fo_70_3 rfl) ?_; clear H a; intro a H
        refine still_does H rfl (does_load one_4 rfl (by first | exact boxM.rd S (i := 0) rfl rfl | exact boxM.rd S (i := 1) rfl rfl | exact boxM.rd S (i := 2) rfl rfl)) ?_; clear H a; intro a H
        refine wpStill_nil (hK14 _ ?_)
        clear hK14 K14
        refine cond_ H rfl (fun hc3 => ?_) (fun hc3 => ?_)
        · try simp only [Bool.or_eq_true, Bool.and_eq_true, Bool.not_eq_true', Bool.or_eq_false_iff, Bool.and_eq_false_iff, Bool.not_eq_false', decide_eq_true_eq, decide_eq_false_iff_not, Int.not_lt, Int.not_le] at hc3
          replace H := H.keep [] rfl
          refine seq_still (fun K15 hK15 => ?_)
          refine still_does H rfl (does_assign rfl) ?_; clear H a; intro a H
          refine still_does H rfl (does_assign rfl) ?_; clear H a; intro a H
          refine wpStill_nil (hK15 _ ?_)
          clear hK15 K15
          refine wp_ret ?_
          refine ret2 (fn := Try.f55) rfl H rfl rfl ?_
          rw [last_arg (p := (⟨rates, pwn, ptn, pag⟩ : Part)) h0 (any_at (k := k) (by omega) hc3)]; exact ⟨rfl, (S.sel [] rfl rfl)⟩
        · try simp only [Bool.or_eq_true, Bool.and_eq_true, Bool.not_eq_true', Bool.or_eq_false_iff, Bool.and_eq_false_iff, Bool.not_eq_false', decide_eq_true_eq, decide_eq_false_iff_not, Int.not_lt, Int.not_le] at hc3
          refine wp_skip ?_
          refine hK12 _ _ ?_
          replace H := H.keep [1, 2, 3, 8, 25, 26, 27] rfl
          refine one_still ?_
          refine still_does H rfl (does_add rfl rfl (by unfold i64ok; omega)) ?_; clear H a; intro a H
          refine still_does H rfl (does_move rfl) ?_; clear H a; intro a H
          refine wpStill_nil ?_
          exact hK9 (g1 - 1) (k + 1) a _ (by omega) (⟨by omega, by omega, any_take (by omega) hp.2.2 hc3⟩) (S.sel [1, 2] rfl rfl) (H.keep [27, 1, 2, 3, 8, 25, 26] rfl)
      · try simp only [Bool.or_eq_true, Bool.and_eq_true, Bool.not_eq_true', Bool.or_eq_false_iff, Bool.and_eq_false_iff, Bool.not_eq_false', decide_eq_true_eq, decide_eq_false_iff_not, Int.not_lt, Int.not_le] at hc2
        refine wp_exit ?_
        refine hK7 _ _ ?_
        have hk9 : k = plan.length := by omega
        have ha := hp.2.2; rw [hk9, List.take_length] at ha
        replace H := H.keep [1, 2, 3, 8] rfl
        refine seq_list (fun K17 hK17 => ?_)
        refine list_does H rfl (by first | exact does_loadIn agg_62 sz_62 rfl S hpl (by omega) (by omega) | exact does_loadBox agg_62 sz_62 rfl S (i := 0) rfl rfl | exact does_loadBox agg_62 sz_62 rfl S (i := 1) rfl rfl) ?_; clear H a; intro a H
        refine list_does H rfl (does_move rfl) ?_; clear H a; intro a H
        refine list_call H rfl rfl Try.func40 rfl rfl (chain_Beyond rates pwn ptn pag RA rcp (l ++ plan) A3 c3 _ (hr.now S) hrn (ownM.inS S (i := 0) rfl) hnn) ?_; clear H a
        rintro _ _ a ⟨rfl, S2⟩ H
        replace S := S.call S2; clear S2
        refine list_does H rfl (does_move rfl) ?_; clear H a; intro a H
        refine list_does H rfl (does_extract rfl rfl) ?_; clear H a; intro a H
        refine list_does H rfl (does_extract rfl rfl) ?_; clear H a; intro a H
        refine list_does H rfl (does_assign rfl) ?_; clear H a; intro a H
        refine list_does H rfl (does_assign rfl) ?_; clear H a; intro a H
        refine hK17 _ _ ?_
        clear hK17 K17
        refine wp_seq_k (fun K18 hK18 => ?_)
        replace H := H.keep [1, 2, 12, 13] rfl
        refine seq_still (fun K19 hK19 => ?_)
        refine still_does H rfl (does_move rfl) ?_; clear H a; intro a H
        refine still_does H rfl (does_neq rfl rfl) ?_; clear H a; intro a H
        refine wpStill_nil (hK19 _ ?_)
        clear hK19 K19
        refine cond_ H rfl (fun hc4 => ?_) (fun hc4 => ?_)
        · try simp only [Bool.or_eq_true, Bool.and_eq_true, Bool.not_eq_true', Bool.or_eq_false_iff, Bool.and_eq_false_iff, Bool.not_eq_false', decide_eq_true_eq, decide_eq_false_iff_not, Int.not_lt, Int.not_le] at hc4
          replace H := H.keep [13] rfl
          refine seq_still (fun K20 hK20 => ?_)
          refine still_does H rfl (does_move rfl) ?_; clear H a; intro a H
          refine still_does H rfl (does_assign rfl) ?_; clear H a; intro a H
          refine still_does H rfl (does_assign rfl) ?_; clear H a; intro a H
          refine wpStill_nil (hK20 _ ?_)
          clear hK20 K20
          refine wp_ret ?_
          refine ret2 (fn := Try.f55) rfl H rfl rfl ?_
          rw [last_none (p := (⟨rates, pwn, ptn, pag⟩ : Part)) h0 ha (by omega)]; exact ⟨rfl, (S.sel [] rfl rfl)⟩
        · try simp only [Bool.or_eq_true, Bool.and_eq_true, Bool.not_eq_true', Bool.or_eq_false_iff, Bool.and_eq_false_iff, Bool.not_eq_false', decide_eq_true_eq, decide_eq_false_iff_not, Int.not_lt, Int.not_le] at hc4
          refine wp_skip ?_
          refine hK18 _ _ ?_
          refine wp_seq_k (fun K21 hK21 => ?_)
          refine wp_block ?_
          replace H := H.keep [1, 2, 12] rfl
          refine seq_still (fun K22 hK22 => ?_)
          refine still_does H rfl (does_move rfl) ?_; clear H a; intro a H
          refine still_does H rfl (does_lss rfl rfl) ?_; clear H a; intro a H
          refine still_does H rfl (does_assign rfl) ?_; clear H a; intro a H
          refine wpStill_nil (hK22 _ ?_)
          clear hK22 K22
          refine cond_ H rfl (fun hc5 => ?_) (fun hc5 => ?_)
          · try simp only [Bool.or_eq_true, Bool.and_eq_true, Bool.not_eq_true', Bool.or_eq_false_iff, Bool.and_eq_false_iff, Bool.not_eq_false', decide_eq_true_eq, decide_eq_false_iff_not, Int.not_lt, Int.not_le] at hc5
            replace H := H.keep [2] rfl
            refine seq_still (fun K23 hK23 => ?_)
            refine still_does H rfl (does_move rfl) ?_; clear H a; intro a H
            refine still_does H rfl (does_len sl_63 rfl) ?_; clear H a; intro a H
            refine still_does H rfl (does_assign rfl) ?_; clear H a; intro a H
            refine still_does H rfl (does_assign rfl) ?_; clear H a; intro a H
            refine wpStill_nil (hK23 _ ?_)
            clear hK23 K23
            refine wp_ret ?_
            refine ret2 (fn := Try.f55) rfl H rfl rfl ?_
            rw [last_is (p := (⟨rates, pwn, ptn, pag⟩ : Part)) h0 ha (by omega), if_pos (by omega)]; exact ⟨rfl, (S.sel [] rfl rfl)⟩
          · try simp only [Bool.or_eq_true, Bool.and_eq_true, Bool.not_eq_true', Bool.or_eq_false_iff, Bool.and_eq_false_iff, Bool.not_eq_false', decide_eq_true_eq, decide_eq_false_iff_not, Int.not_lt, Int.not_le] at hc5
            replace H := H.keep [1, 12] rfl
            refine seq_still (fun K24 hK24 => ?_)
            refine still_does H rfl (does_move rfl) ?_; clear H a; intro a H
            refine still_does H rfl (does_move rfl) ?_; clear H a; intro a H
            refine still_does H rfl (does_len sl_63 rfl) ?_; clear H a; intro a H
            refine still_does H rfl (does_lss rfl rfl) ?_; clear H a; intro a H
            refine still_does H rfl (does_assign rfl) ?_; clear H a; intro a H
            refine wpStill_nil (hK24 _ ?_)
            clear hK24 K24
            refine cond_ H rfl (fun hc6 => ?_) (fun hc6 => ?_)
            · try simp only [Bool.or_eq_true, Bool.and_eq_true, Bool.not_eq_true', Bool.or_eq_false_iff, Bool.and_eq_false_iff, Bool.not_eq_false', decide_eq_true_eq, decide_eq_false_iff_not, Int.not_lt, Int.not_le] at hc6
              replace H := H.keep [] rfl
              refine seq_still (fun K25 hK25 => ?_)
              refine still_does H rfl (does_assign rfl) ?_; clear H a; intro a H
              refine still_does H rfl (does_assign rfl) ?_; clear H a; intro a H
              refine wpStill_nil (hK25 _ ?_)
              clear hK25 K25
              refine wp_ret ?_
              refine ret2 (fn := Try.f55) rfl H rfl rfl ?_
              rw [last_is (p := (⟨rates, pwn, ptn, pag⟩ : Part)) h0 ha (by omega), if_neg (by omega), show max (-1) ((beyondO (⟨rates, pwn, ptn, pag⟩ : Part) (l ++ plan) Prod.snd).1 - (l.length : Int)) = -1 by omega]; exact ⟨rfl, (S.sel [] rfl rfl)⟩
            · try simp only [Bool.or_eq_true, Bool.and_eq_true, Bool.not_eq_true', Bool.or_eq_false_iff, Bool.and_eq_false_iff, Bool.not_eq_false', decide_eq_true_eq, decide_eq_false_iff_not, Int.not_lt, Int.not_le] at hc6
              refine wp_skip ?_
              refine hK21 _ _ ?_
              replace H := H.keep [1, 12] rfl
              refine seq_still (fun K26 hK26 => ?_)
              refine still_does H rfl (does_move rfl) ?_; clear H a; intro a H
              refine still_does H rfl (does_move rfl) ?_; clear H a; intro a H
              refine still_does H rfl (does_len sl_63 rfl) ?_; clear H a; intro a H
              refine still_does H rfl (does_sub rfl rfl (by unfold i64ok; omega)) ?_; clear H a; intro a H
              refine still_does H rfl (does_assign rfl) ?_; clear H a; intro a H
              refine still_does H rfl (does_assign rfl) ?_; clear H a; intro a H
              refine wpStill_nil (hK26 _ ?_)
              clear hK26 K26
              refine wp_ret ?_
              refine ret2 (fn := Try.f55) rfl H rfl rfl ?_
              rw [last_is (p := (⟨rates, pwn, ptn, pag⟩ : Part)) h0 ha (by omega), if_neg (by omega), show max (-1) ((beyondO (⟨rates, pwn, ptn, pag⟩ : Part) (l ++ plan) Prod.snd).1 - (l.length : Int)) = (beyondO (⟨rates, pwn, ptn, pag⟩ : Part) (l ++ plan) Prod.snd).1 - (l.length : Int) by omega]; exact ⟨rfl, (S.sel [] rfl rfl)⟩

set_option maxRecDepth 100000 in
set_option maxHeartbeats 1000000 in
theorem ref_Last (rates : List (Int × Int)) (pwn ptn pag : Int) (RA : Option Addr) (rcp : Nat) (l : List Use) (A : Option Addr) (cp : Nat) (plan : List Use) (B : Option Addr) (cq : Nat) (w : World) (hr : InS w noF 2 RA rates.length (scell rates)) (hrn : rates.length ≤ 9223372036854775807) (hl : InS w noF 6 A l.length (ucell l)) (hn : l.length ≤ 9223372036854775807) (hpl : InS w noF 6 B plan.length (ucell plan)) (hsum : (l.length + plan.length) * 48 ≤ 140737488355328) (hpn : plan.length ≤ 9223372036854775807) :
    Calls Try.prog 56 [.agg [.slice RA rates.length rcp, .int .i64 pwn, .int .i64 ptn, .int .i64 pag].toArray, .slice A l.length cp, .slice B plan.length cq].toArray w (Ret (fun v w' => v = .tuple #[.int .i64 (lastO (⟨rates, pwn, ptn, pag⟩ : Part) l plan).1, .int .i64 (lastO (⟨rates, pwn, ptn, pag⟩ : Part) l plan).2] ∧ St w noF [] w')) := by
  have hmx : maxLen = 9223372036854775807 := rfl
  have hnn : (l ++ plan).length ≤ 9223372036854775807 := by rw [List.length_append]; omega
  refine enter Try.func56 rfl Try.ntmps56 rfl (fun a H => ?_)
  have S := St.start w
  refine seq_list (fun K1 hK1 => ?_)
  refine list_box H rfl S rfl rfl ?_; clear H a S; intro b3 _ a hb3 hbw3 S H
  refine list_does H rfl (does_assign rfl) ?_; clear H a; intro a H
  refine list_does H rfl (does_assign rfl) ?_; clear H a; intro a H
  refine hK1 _ _ ?_
  clear hK1 K1
  replace H := H.keep [1, 2, 3] rfl
  refine seq_list (fun K2 hK2 => ?_)
  refine list_build0 H rfl S sl_63 sz_70 (ucell l) ?_; clear H a S; intro A1 _ a S H
  refine list_does H rfl (does_move rfl) ?_; clear H a; intro a H
  refine list_append H rfl S sl_63 sz_70 ze_70 by_70 rfl rfl (i := 0) rfl rfl rfl (hl.now S) (ucell_ones l) (by omega) (by omega) ?_; clear H a S; intro A2 c2 _ a S H
  rw [Nat.zero_add] at H
  replace S := S.recell (i := 0) (cell' := ucell l) (by rw [Nat.zero_add]; rfl) (fun k j hk hj => by unfold capp; rw [if_neg (by omega)]; rfl)
  refine list_does H rfl (does_move rfl) ?_; clear H a; intro a H
  refine list_append H rfl S sl_63 sz_70 ze_70 by_70 rfl rfl (i := 0) rfl rfl rfl (hpl.now S) (ucell_ones plan) (by omega) (by omega) ?_; clear H a S; intro A3 c3 _ a S H
  replace S := S.recell (i := 0) rfl ucell_app
  rw [← List.length_append] at S H
  refine list_does H rfl (does_assign rfl) ?_; clear H a; intro a H
  refine hK2 _ _ ?_
  clear hK2 K2
  replace H := H.keep [1, 2, 3, 8] rfl
  refine seq_list (fun K3 hK3 => ?_)
  refine list_does H rfl (by first | exact does_loadBox agg_62 sz_62 rfl S (i := 0) rfl rfl | exact does_loadBox agg_62 sz_62 rfl S (i := 1) rfl rfl) ?_; clear H a; intro a H
  refine list_does H rfl (does_move rfl) ?_; clear H a; intro a H
  refine list_call H rfl rfl Try.func36 rfl rfl (ref_CheckPart rates pwn ptn pag RA rcp (l ++ plan) A3 c3 _ (hr.now S) hrn (ownM.inS S (i := 0) rfl) hnn) ?_; clear H a
  rintro _ _ a ⟨rfl, S2⟩ H
  replace S := S.call S2; clear S2
  refine list_does H rfl (does_assign rfl) ?_; clear H a; intro a H
  refine hK3 _ _ ?_
  clear hK3 K3
  refine wp_seq_k (fun K4 hK4 => ?_)
  replace H := H.keep [1, 2, 3, 8, 9] rfl
  refine seq_still (fun K5 hK5 => ?_)
  refine still_does H rfl (does_move rfl) ?_; clear H a; intro a H
  refine still_does H rfl (does_neq rfl rfl) ?_; clear H a; intro a H
  refine wpStill_nil (hK5 _ ?_)
  clear hK5 K5
  refine cond_ H rfl (fun hc1 => ?_) (fun hc1 => ?_)
  · try simp only [Bool.or_eq_true, Bool.and_eq_true, Bool.not_eq_true', Bool.or_eq_false_iff, Bool.and_eq_false_iff, Bool.not_eq_false', decide_eq_true_eq, decide_eq_false_iff_not, Int.not_lt, Int.not_le] at hc1
    replace H := H.keep [9] rfl
    refine seq_still (fun K6 hK6 => ?_)
    refine still_does H rfl (does_move rfl) ?_; clear H a; intro a H
    refine still_does H rfl (does_assign rfl) ?_; clear H a; intro a H
    refine still_does H rfl (does_assign rfl) ?_; clear H a; intro a H
    refine wpStill_nil (hK6 _ ?_)
    clear hK6 K6
    refine wp_ret ?_
    refine ret2 (fn := Try.f56) rfl H rfl rfl ?_
    rw [last_err (p := (⟨rates, pwn, ptn, pag⟩ : Part)) (by omega)]; exact ⟨rfl, (S.sel [] rfl rfl)⟩
  · try simp only [Bool.or_eq_true, Bool.and_eq_true, Bool.not_eq_true', Bool.or_eq_false_iff, Bool.and_eq_false_iff, Bool.not_eq_false', decide_eq_true_eq, decide_eq_false_iff_not, Int.not_lt, Int.not_le] at hc1
    refine wp_skip ?_
    refine hK4 _ _ ?_
    refine wp_seq_k (fun K7 hK7 => ?_)
    have h0 : checkP (⟨rates, pwn, ptn, pag⟩ : Part) (l ++ plan) = 0 := by omega
    have hok := checkP_ok h0; have hll := hok.len; have hbb := beyond_bd (p := (⟨rates, pwn, ptn, pag⟩ : Part)) (l := l ++ plan) Prod.snd (by omega)
    rw [List.length_append] at hll
    replace H := H.keep [1, 2, 3, 8] rfl
    refine seq_still (fun K8 hK8 => ?_)
    refine still_does H rfl (does_assign rfl) ?_; clear H a; intro a H
    refine wpStill_nil (hK8 _ ?_)
    clear hK8 K8
    refine wp_block ?_
    refine loop_st (X := Nat) (R0 := _) [1, 2, 3, 8] H rfl (fun k => [(10, .int .i64 (k : Int))]) (fun k => []) (fun g k => k ≤ plan.length ∧ g + k = plan.length ∧ (plan.take k).any (·.meas) = false) (plan.length) 0 ?_ (S.sel [0, 1] rfl rfl) (H.keep [10, 1, 2, 3, 8] rfl) ?_
    · exact ⟨by omega, by omega, rfl⟩
    · intro g1 x1 a w1 hp S H K9 hK9
      obtain ⟨k, rfl⟩ : ∃ y, y = x1 := ⟨_, rfl⟩
      skip
      refine wp_seq_k (fun K10 hK10 => ?_)
      replace H := H.keep [1, 2, 3, 8, 10] rfl
      refine seq_still (fun K11 hK11 => ?_)
      refine still_does H rfl (does_move rfl) ?_; clear H a; intro a H
      refine still_does H rfl (does_move rfl) ?_; clear H a; intro a H
      refine still_does H rfl (does_len sl_63 rfl) ?_; clear H a; intro a H
      refine still_does H rfl (does_lss rfl rfl) ?_; clear H a; intro a H
      refine wpStill_nil (hK11 _ ?_)
      clear hK11 K11
      refine cond_ H rfl (fun hc2 => ?_) (fun hc2 => ?_)
      · try simp only [Bool.or_eq_true, Bool.and_eq_true, Bool.not_eq_true', Bool.or_eq_false_iff, Bool.and_eq_false_iff, Bool.not_eq_false', decide_eq_true_eq, decide_eq_false_iff_not, Int.not_lt, Int.not_le] at hc2
        refine wp_skip ?_
        refine hK10 _ _ ?_
        refine wp_seq_k (fun K12 hK12 => ?_)
        refine wp_block ?_
        replace H := H.keep [1, 2, 3, 8, 10] rfl
        refine seq_still (fun K13 hK13 => ?_)
        refine still_does H rfl (does_move rfl) ?_; clear H a; intro a H
        refine still_does H rfl (does_move rfl) ?_; clear H a; intro a H
        refine still_does H rfl (by first | exact does_indexN sl_63 sz_70 rfl rfl (by first | exact hpl.adr (by omega)) (by first | omega | omega) | exact does_index sl_63 sz_70 rfl rfl (by first | exact hpl.adr (by omega)) (by omega) (by first | omega | omega)) ?_; clear H a; intro a H
        refine still_does H rfl (by first | exact does_field_pt fo_70_3 rfl | exact does_field fo_70_3 rfl) ?_; clear H a; intro a H
        refine still_does H rfl (does_load one_4 rfl (by first | exact hpl.rd S (by omega) (by omega) | exact boxM.rd S (i := 0) rfl rfl | exact boxM.rd S (i := 1) rfl rfl)) ?_; clear H a; intro a H
        refine wpStill_nil (hK13 _ ?_)
        clear hK13 K13
        refine cond_ H rfl (fun hc3 => ?_) (fun hc3 => ?_)
        · try simp only [Bool.or_eq_true, Bool.and_eq_true, Bool.not_eq_true', Bool.or_eq_false_iff, Bool.and_eq_false_iff, Bool.not_eq_false', decide_eq_true_eq, decide_eq_false_iff_not, Int.not_lt, Int.not_le] at hc3
          replace H := H.keep [] rfl
          refine seq_still (fun K14 hK14 => ?_)
          refine still_does H rfl (does_assign rfl) ?_; clear H a; intro a H
          refine still_does H rfl (does_assign rfl) ?_; clear H a; intro a H
          refine wpStill_nil (hK14 _ ?_)
          clear hK14 K14
          refine wp_ret ?_
          refine ret2 (fn := Try.f56) rfl H rfl rfl ?_
          rw [last_arg (p := (⟨rates, pwn, ptn, pag⟩ : Part)) h0 (any_at (k := k) (by omega) hc3)]; exact ⟨rfl, (S.sel [] rfl rfl)⟩
        · try simp only [Bool.or_eq_true, Bool.and_eq_true, Bool.not_eq_true', Bool.or_eq_false_iff, Bool.and_eq_false_iff, Bool.not_eq_false', decide_eq_true_eq, decide_eq_false_iff_not, Int.not_lt, Int.not_le] at hc3
          refine wp_skip ?_
          refine hK12 _ _ ?_
          replace H := H.keep [1, 2, 3, 8, 10] rfl
          refine one_still ?_
          refine still_does H rfl (does_move rfl) ?_; clear H a; intro a H
          refine still_does H rfl (does_add rfl rfl (by unfold i64ok; omega)) ?_; clear H a; intro a H
          refine still_does H rfl (does_assign rfl) ?_; clear H a; intro a H
          refine wpStill_nil ?_
          exact hK9 (g1 - 1) (k + 1) a _ (by omega) (⟨by omega, by omega, any_take (by omega) hp.2.2 hc3⟩) (S.sel [0, 1] rfl rfl) (H.keep [10, 1, 2, 3, 8] rfl)
      · try simp only [Bool.or_eq_true, Bool.and_eq_true, Bool.not_eq_true', Bool.or_eq_false_iff, Bool.and_eq_false_iff, Bool.not_eq_false', decide_eq_true_eq, decide_eq_false_iff_not, Int.not_lt, Int.not_le] at hc2
        refine wp_exit ?_
        refine hK7 _ _ ?_
        have hk9 : k = plan.length := by omega
        have ha := hp.2.2; rw [hk9, List.take_length] at ha
        have hbe := beyond_err (p := (⟨rates, pwn, ptn, pag⟩ : Part)) (l := l ++ plan) Prod.snd
        by_cases hA : wearE (⟨rates, pwn, ptn, pag⟩ : Part) (l ++ plan) = 0
        · skip
          replace H := H.keep [1, 2, 3, 8] rfl
          refine seq_list (fun K16 hK16 => ?_)
          refine list_does H rfl (by first | exact does_loadBox agg_62 sz_62 rfl S (i := 0) rfl rfl | exact does_loadBox agg_62 sz_62 rfl S (i := 1) rfl rfl) ?_; clear H a; intro a H
          refine list_does H rfl (does_move rfl) ?_; clear H a; intro a H
          refine list_call H rfl rfl Try.func73 rfl rfl (ret_imp (ref_wear rates pwn ptn pag RA rcp (l ++ plan) A3 c3 _ (hr.now S) hrn (ownM.inS S (i := 0) rfl) hnn hok h0) (fun _ _ => wearR_yes hA)) ?_; clear H a
          rintro _ _ a ⟨A', c', rfl, S2⟩ H
          replace S := S.call S2; clear S2
          refine list_does H rfl (does_move rfl) ?_; clear H a; intro a H
          refine list_does H rfl (does_extract rfl rfl) ?_; clear H a; intro a H
          refine list_does H rfl (does_extract rfl rfl) ?_; clear H a; intro a H
          refine list_does H rfl (does_assign rfl) ?_; clear H a; intro a H
          refine list_does H rfl (does_assign rfl) ?_; clear H a; intro a H
          refine hK16 _ _ ?_
          clear hK16 K16
          refine wp_seq_k (fun K17 hK17 => ?_)
          replace H := H.keep [1, 2, 3, 8, 9, 11] rfl
          refine seq_still (fun K18 hK18 => ?_)
          refine still_does H rfl (does_move rfl) ?_; clear H a; intro a H
          refine still_does H rfl (does_neq rfl rfl) ?_; clear H a; intro a H
          refine wpStill_nil (hK18 _ ?_)
          clear hK18 K18
          refine cond_ H rfl (fun hc4 => ?_) (fun hc4 => ?_)
          · try simp only [Bool.or_eq_true, Bool.and_eq_true, Bool.not_eq_true', Bool.or_eq_false_iff, Bool.and_eq_false_iff, Bool.not_eq_false', decide_eq_true_eq, decide_eq_false_iff_not, Int.not_lt, Int.not_le] at hc4
            all_goals first | (exfalso; omega) | (simp at hc4)
          · try simp only [Bool.or_eq_true, Bool.and_eq_true, Bool.not_eq_true', Bool.or_eq_false_iff, Bool.and_eq_false_iff, Bool.not_eq_false', decide_eq_true_eq, decide_eq_false_iff_not, Int.not_lt, Int.not_le] at hc4
            refine wp_skip ?_
            refine hK17 _ _ ?_
            replace H := H.keep [1, 2, 3, 8, 11] rfl
            refine seq_list (fun K19 hK19 => ?_)
            refine list_does H rfl (by first | exact does_loadBox agg_62 sz_62 rfl S (i := 0) rfl rfl | exact does_loadBox agg_62 sz_62 rfl S (i := 1) rfl rfl | exact does_loadBox agg_62 sz_62 rfl S (i := 2) rfl rfl) ?_; clear H a; intro a H
            refine list_does H rfl (does_move rfl) ?_; clear H a; intro a H
            refine list_does H rfl (does_move rfl) ?_; clear H a; intro a H
            refine list_call H rfl rfl Try.func76 rfl rfl (ref_beyond rates pwn ptn pag RA rcp (l ++ plan) A3 c3 _ (hr.now S) hrn (ownM.inS S (i := 1) rfl) hnn hok A' c' true (ownM.inS S (i := 0) rfl)) ?_; clear H a
            rintro _ _ a ⟨rfl, S2⟩ H
            replace S := S.call S2; clear S2
            rw [show (firstO (fun k => wornB (⟨rates, pwn, ptn, pag⟩ : Part) (l ++ plan) k (selE true (wearAt (⟨rates, pwn, ptn, pag⟩ : Part) (l ++ plan) k))) (l ++ plan).length) = (beyondO (⟨rates, pwn, ptn, pag⟩ : Part) (l ++ plan) Prod.snd).1 from (beyond_ok Prod.snd hA).symm] at H
            refine list_does H rfl (does_assign rfl) ?_; clear H a; intro a H
            refine hK19 _ _ ?_
            clear hK19 K19
            refine wp_seq_k (fun K20 hK20 => ?_)
            replace H := H.keep [1, 2, 12] rfl
            refine seq_still (fun K21 hK21 => ?_)
            refine still_does H rfl (does_move rfl) ?_; clear H a; intro a H
            refine still_does H rfl (does_lss rfl rfl) ?_; clear H a; intro a H
            refine wpStill_nil (hK21 _ ?_)
            clear hK21 K21
            refine cond_ H rfl (fun hc5 => ?_) (fun hc5 => ?_)
            · try simp only [Bool.or_eq_true, Bool.and_eq_true, Bool.not_eq_true', Bool.or_eq_false_iff, Bool.and_eq_false_iff, Bool.not_eq_false', decide_eq_true_eq, decide_eq_false_iff_not, Int.not_lt, Int.not_le] at hc5
              replace H := H.keep [2] rfl
              refine seq_still (fun K22 hK22 => ?_)
              refine still_does H rfl (does_move rfl) ?_; clear H a; intro a H
              refine still_does H rfl (does_len sl_63 rfl) ?_; clear H a; intro a H
              refine still_does H rfl (does_assign rfl) ?_; clear H a; intro a H
              refine still_does H rfl (does_assign rfl) ?_; clear H a; intro a H
              refine wpStill_nil (hK22 _ ?_)
              clear hK22 K22
              refine wp_ret ?_
              refine ret2 (fn := Try.f56) rfl H rfl rfl ?_
              rw [last_is (p := (⟨rates, pwn, ptn, pag⟩ : Part)) h0 ha (by omega), if_pos (by omega)]; exact ⟨rfl, (S.sel [] rfl rfl)⟩
            · try simp only [Bool.or_eq_true, Bool.and_eq_true, Bool.not_eq_true', Bool.or_eq_false_iff, Bool.and_eq_false_iff, Bool.not_eq_false', decide_eq_true_eq, decide_eq_false_iff_not, Int.not_lt, Int.not_le] at hc5
              refine wp_skip ?_
              refine hK20 _ _ ?_
              replace H := H.keep [1, 12] rfl
              refine seq_still (fun K23 hK23 => ?_)
              refine still_does H rfl (does_move rfl) ?_; clear H a; intro a H
              refine still_does H rfl (does_move rfl) ?_; clear H a; intro a H
              refine still_does H rfl (does_len sl_63 rfl) ?_; clear H a; intro a H
              refine still_does H rfl (does_sub rfl rfl (by unfold i64ok; omega)) ?_; clear H a; intro a H
              refine still_does H rfl (does_max rfl rfl) ?_; clear H a; intro a H
              refine still_does H rfl (does_assign rfl) ?_; clear H a; intro a H
              refine still_does H rfl (does_assign rfl) ?_; clear H a; intro a H
              refine wpStill_nil (hK23 _ ?_)
              clear hK23 K23
              refine wp_ret ?_
              refine ret2 (fn := Try.f56) rfl H rfl rfl ?_
              rw [last_is (p := (⟨rates, pwn, ptn, pag⟩ : Part)) h0 ha (by omega), if_neg (by omega)]; exact ⟨rfl, (S.sel [] rfl rfl)⟩
        · skip
          replace H := H.keep [1, 2, 3, 8] rfl
          refine seq_list (fun K24 hK24 => ?_)
          refine list_does H rfl (by first | exact does_loadBox agg_62 sz_62 rfl S (i := 0) rfl rfl | exact does_loadBox agg_62 sz_62 rfl S (i := 1) rfl rfl) ?_; clear H a; intro a H
          refine list_does H rfl (does_move rfl) ?_; clear H a; intro a H
          refine list_call H rfl rfl Try.func73 rfl rfl (ret_imp (ref_wear rates pwn ptn pag RA rcp (l ++ plan) A3 c3 _ (hr.now S) hrn (ownM.inS S (i := 0) rfl) hnn hok h0) (fun _ _ => wearR_no hA)) ?_; clear H a
          rintro _ _ a ⟨rfl, S2⟩ H
          replace S := S.call S2; clear S2
          refine list_does H rfl (does_move rfl) ?_; clear H a; intro a H
          refine list_does H rfl (does_extract rfl rfl) ?_; clear H a; intro a H
          refine list_does H rfl (does_extract rfl rfl) ?_; clear H a; intro a H
          refine list_does H rfl (does_assign rfl) ?_; clear H a; intro a H
          refine list_does H rfl (does_assign rfl) ?_; clear H a; intro a H
          refine hK24 _ _ ?_
          clear hK24 K24
          refine wp_seq_k (fun K25 hK25 => ?_)
          replace H := H.keep [1, 2, 3, 8, 9, 11] rfl
          refine seq_still (fun K26 hK26 => ?_)
          refine still_does H rfl (does_move rfl) ?_; clear H a; intro a H
          refine still_does H rfl (does_neq rfl rfl) ?_; clear H a; intro a H
          refine wpStill_nil (hK26 _ ?_)
          clear hK26 K26
          refine cond_ H rfl (fun hc6 => ?_) (fun hc6 => ?_)
          · try simp only [Bool.or_eq_true, Bool.and_eq_true, Bool.not_eq_true', Bool.or_eq_false_iff, Bool.and_eq_false_iff, Bool.not_eq_false', decide_eq_true_eq, decide_eq_false_iff_not, Int.not_lt, Int.not_le] at hc6
            replace H := H.keep [9] rfl
            refine seq_still (fun K27 hK27 => ?_)
            refine still_does H rfl (does_move rfl) ?_; clear H a; intro a H
            refine still_does H rfl (does_assign rfl) ?_; clear H a; intro a H
            refine still_does H rfl (does_assign rfl) ?_; clear H a; intro a H
            refine wpStill_nil (hK27 _ ?_)
            clear hK27 K27
            refine wp_ret ?_
            refine ret2 (fn := Try.f56) rfl H rfl rfl ?_
            rw [last_none (p := (⟨rates, pwn, ptn, pag⟩ : Part)) h0 ha (by omega), hbe]; exact ⟨rfl, (S.sel [] rfl rfl)⟩
          · try simp only [Bool.or_eq_true, Bool.and_eq_true, Bool.not_eq_true', Bool.or_eq_false_iff, Bool.and_eq_false_iff, Bool.not_eq_false', decide_eq_true_eq, decide_eq_false_iff_not, Int.not_lt, Int.not_le] at hc6
            all_goals (exfalso; omega)

set_option maxRecDepth 100000 in
set_option maxHeartbeats 4000000 in
theorem ref_Due (rates : List (Int × Int)) (pwn ptn pag : Int) (RA : Option Addr) (rcp : Nat) (l : List Use) (A : Option Addr) (cp : Nat) (cls day : Int) (w : World) (hr : InS w noF 2 RA rates.length (scell rates)) (hrn : rates.length ≤ 9223372036854775807) (hl : InS w noF 6 A l.length (ucell l)) (hn : l.length ≤ 9223372036854775807) :
    Calls Try.prog 57 [.agg [.slice RA rates.length rcp, .int .i64 pwn, .int .i64 ptn, .int .i64 pag].toArray, .slice A l.length cp, .int .i64 cls, .int .i64 day].toArray w (Ret (fun v w' => v = .tuple #[.int .i64 (dueO (⟨rates, pwn, ptn, pag⟩ : Part) l cls day).1, .int .i64 (dueO (⟨rates, pwn, ptn, pag⟩ : Part) l cls day).2] ∧ St w noF [] w')) := by
  refine enter Try.func57 rfl Try.ntmps57 rfl (fun a H => ?_)
  have S := St.start w
  refine seq_list (fun K1 hK1 => ?_)
  refine list_box H rfl S rfl rfl ?_; clear H a S; intro b4 _ a hb4 hbw4 S H
  refine list_does H rfl (does_assign rfl) ?_; clear H a; intro a H
  refine list_does H rfl (does_assign rfl) ?_; clear H a; intro a H
  refine hK1 _ _ ?_
  clear hK1 K1
  replace H := H.keep [1, 2, 3, 4] rfl
  refine seq_list (fun K2 hK2 => ?_)
  refine list_does H rfl (by first | exact does_loadIn agg_62 sz_62 rfl S hl (by omega) (by omega) | exact does_loadIn agg_62 sz_62 rfl S hr (by omega) (by omega) | exact does_loadBox agg_62 sz_62 rfl S (i := 0) rfl rfl) ?_; clear H a; intro a H
  refine list_does H rfl (does_move rfl) ?_; clear H a; intro a H
  refine list_call H rfl rfl Try.func36 rfl rfl (ref_CheckPart rates pwn ptn pag RA rcp l A cp _ (hr.now S) hrn (hl.now S) hn) ?_; clear H a
  rintro _ _ a ⟨rfl, S2⟩ H
  replace S := S.call S2; clear S2
  refine list_does H rfl (does_assign rfl) ?_; clear H a; intro a H
  refine hK2 _ _ ?_
  clear hK2 K2
  refine wp_seq_k (fun K3 hK3 => ?_)
  replace H := H.keep [1, 2, 3, 4, 10] rfl
  refine seq_still (fun K4 hK4 => ?_)
  refine still_does H rfl (does_move rfl) ?_; clear H a; intro a H
  refine still_does H rfl (does_neq rfl rfl) ?_; clear H a; intro a H
  refine wpStill_nil (hK4 _ ?_)
  clear hK4 K4
  refine cond_ H rfl (fun hc1 => ?_) (fun hc1 => ?_)
  · try simp only [Bool.or_eq_true, Bool.and_eq_true, Bool.not_eq_true', Bool.or_eq_false_iff, Bool.and_eq_false_iff, Bool.not_eq_false', decide_eq_true_eq, decide_eq_false_iff_not, Int.not_lt, Int.not_le] at hc1
    replace H := H.keep [10] rfl
    refine seq_still (fun K5 hK5 => ?_)
    refine still_does H rfl (does_move rfl) ?_; clear H a; intro a H
    refine still_does H rfl (does_assign rfl) ?_; clear H a; intro a H
    refine still_does H rfl (does_assign rfl) ?_; clear H a; intro a H
    refine wpStill_nil (hK5 _ ?_)
    clear hK5 K5
    refine wp_ret ?_
    refine ret2 (fn := Try.f57) rfl H rfl rfl ?_
    rw [due_err (p := (⟨rates, pwn, ptn, pag⟩ : Part)) (by omega)]; exact ⟨rfl, (S.sel [] rfl rfl)⟩
  · try simp only [Bool.or_eq_true, Bool.and_eq_true, Bool.not_eq_true', Bool.or_eq_false_iff, Bool.and_eq_false_iff, Bool.not_eq_false', decide_eq_true_eq, decide_eq_false_iff_not, Int.not_lt, Int.not_le] at hc1
    refine wp_skip ?_
    refine hK3 _ _ ?_
    refine wp_seq_k (fun K6 hK6 => ?_)
    have h0 : checkP (⟨rates, pwn, ptn, pag⟩ : Part) l = 0 := by omega
    have hok := checkP_ok h0
    have hll := hok.len
    have hh := hok.hdr; unfold partHdr at hh; simp only [decide_eq_true_eq] at hh
    have hpd : prevD l l.length = if 0 < l.length then (l.getD (l.length - 1) Use.zero).day else 0 := by
      cases hq : l.length with
      | zero => rfl
      | succ q => rfl
    have hj9 : ((l.length : Int) - 1).toNat = l.length - 1 := by omega
    have hpn := prevD_nonneg hok.uses
    replace H := H.keep [1, 2, 3, 4] rfl
    refine seq_still (fun K7 hK7 => ?_)
    refine still_does H rfl (does_move rfl) ?_; clear H a; intro a H
    refine still_does H rfl (by first | exact does_field_pt fo_62_0 rfl | exact does_field fo_62_0 rfl) ?_; clear H a; intro a H
    refine still_does H rfl (does_load one_37 rfl (by first | exact hl.rd S (by omega) (by omega) | exact hr.rd S (by omega) (by omega) | exact boxM.rd S (i := 0) rfl rfl)) ?_; clear H a; intro a H
    refine still_does H rfl (does_len sl_37 rfl) ?_; clear H a; intro a H
    refine still_does H rfl (does_sub rfl rfl (by unfold i64ok; omega)) ?_; clear H a; intro a H
    refine still_call H rfl rfl Try.func67 rfl rfl (ref_from _ _ _ _) ?_; clear H a; intro a H
    refine still_does H rfl (does_not rfl) ?_; clear H a; intro a H
    refine still_does H rfl (does_move rfl) ?_; clear H a; intro a H
    apply still_guard (i := 7) (g := 30) (t := 33) (b := false) 3 H rfl rfl (by kernel_rfl) (by kernel_rfl) rfl rfl
    case h1 =>
      intro hg8
      have hq8 := hg8; try simp only [Bool.or_eq_true, Bool.and_eq_true, Bool.not_eq_true', Bool.or_eq_false_iff, Bool.and_eq_false_iff, Bool.not_eq_false', decide_eq_true_eq, decide_eq_false_iff_not, Int.not_lt, Int.not_le] at hq8
      refine still_yes' H rfl rfl (by assumption) ?_
      refine still_does H rfl (does_move rfl) ?_; intro a H
      refine still_yes' H rfl rfl (by assumption) ?_
      refine still_call H rfl rfl Try.func67 rfl rfl (ref_from _ _ _ _) ?_; intro a H
      refine still_yes' H rfl rfl (by assumption) ?_
      refine still_does H rfl (does_not rfl) ?_; intro a H
      exact wpStill_nil (H.strip 3 rfl rfl)
    case k =>
      clear H a; intro a H
      refine still_does H rfl (by first | exact does_or rfl rfl rfl | exact does_pick rfl rfl rfl) ?_; clear H a; intro a H
      refine still_does H rfl (does_move rfl) ?_; clear H a; intro a H
      apply still_guard (i := 12) (g := 35) (t := 49) (b := false) 14 H rfl rfl (by kernel_rfl) (by kernel_rfl) rfl rfl
      case h1 =>
        intro hg13
        have hq13 := hg13; try simp only [Bool.or_eq_true, Bool.and_eq_true, Bool.not_eq_true', Bool.or_eq_false_iff, Bool.and_eq_false_iff, Bool.not_eq_false', decide_eq_true_eq, decide_eq_false_iff_not, Int.not_lt, Int.not_le] at hq13
        refine still_yes' H rfl rfl (by assumption) ?_
        refine still_does H rfl (does_move rfl) ?_; intro a H
        refine still_yes' H rfl rfl (by assumption) ?_
        refine still_does H rfl (does_len sl_63 rfl) ?_; intro a H
        refine still_yes' H rfl rfl (by assumption) ?_
        refine still_does H rfl (does_gtr rfl rfl) ?_; intro a H
        refine still_yes' H rfl rfl (by assumption) ?_
        refine still_does H rfl (does_move rfl) ?_; intro a H
        apply still_guard (i := 16) (g := 39) (t := 48) (b := true) 9 H rfl rfl (by kernel_rfl) (by kernel_rfl) rfl rfl
        case h1 =>
          intro hg17
          have hq17 := hg17; try simp only [Bool.or_eq_true, Bool.and_eq_true, Bool.not_eq_true', Bool.or_eq_false_iff, Bool.and_eq_false_iff, Bool.not_eq_false', decide_eq_true_eq, decide_eq_false_iff_not, Int.not_lt, Int.not_le] at hq17
          refine still_yes' H rfl rfl (by assumption) ?_
          refine still_does H rfl (does_move rfl) ?_; intro a H
          refine still_yes' H rfl rfl (by assumption) ?_
          refine still_does H rfl (does_move rfl) ?_; intro a H
          refine still_yes' H rfl rfl (by assumption) ?_
          refine still_does H rfl (does_move rfl) ?_; intro a H
          refine still_yes' H rfl rfl (by assumption) ?_
          refine still_does H rfl (does_len sl_63 rfl) ?_; intro a H
          refine still_yes' H rfl rfl (by assumption) ?_
          refine still_does H rfl (does_sub rfl rfl (by unfold i64ok; omega)) ?_; intro a H
          refine still_yes' H rfl rfl (by assumption) ?_
          refine still_does H rfl (by first | exact does_indexN sl_63 sz_70 rfl rfl (by first | exact hl.adr (by omega) | exact hr.adr (by omega)) (by first | omega | omega) | exact does_index sl_63 sz_70 rfl rfl (by first | exact hl.adr (by omega) | exact hr.adr (by omega)) (by omega) (by first | omega | omega)) ?_; intro a H
          refine still_yes' H rfl rfl (by assumption) ?_
          refine still_does H rfl (by first | exact does_field_pt fo_70_0 rfl | exact does_field fo_70_0 rfl) ?_; intro a H
          refine still_yes' H rfl rfl (by assumption) ?_
          refine still_does H rfl (does_load one_3 rfl (by first | exact hl.rd S (by omega) (by omega) | exact hr.rd S (by omega) (by omega) | exact boxM.rd S (i := 0) rfl rfl)) ?_; intro a H
          refine still_yes' H rfl rfl (by assumption) ?_
          refine still_does H rfl (does_lss rfl rfl) ?_; intro a H
          exact wpStill_nil (H.strip 9 rfl rfl)
        case k =>
          intro a H
          refine still_yes' H rfl rfl (by assumption) ?_
          refine still_does H rfl (by first | exact does_and rfl rfl rfl | exact does_pick rfl rfl rfl) ?_; intro a H
          exact wpStill_nil (H.strip 6 rfl rfl)
      case k =>
        clear H a; intro a H
        refine still_does H rfl (by first | exact does_or rfl rfl rfl | exact does_pick rfl rfl rfl) ?_; clear H a; intro a H
        refine wpStill_nil (hK7 _ ?_)
        clear hK7 K7
        refine cond_ H rfl (fun hc2 => ?_) (fun hc2 => ?_)
        · try simp only [Bool.or_eq_true, Bool.and_eq_true, Bool.not_eq_true', Bool.or_eq_false_iff, Bool.and_eq_false_iff, Bool.not_eq_false', decide_eq_true_eq, decide_eq_false_iff_not, Int.not_lt, Int.not_le] at hc2
          rw [hj9] at hc2
          replace H := H.keep [] rfl
          refine seq_still (fun K8 hK8 => ?_)
          refine still_does H rfl (does_assign rfl) ?_; clear H a; intro a H
          refine still_does H rfl (does_assign rfl) ?_; clear H a; intro a H
          refine wpStill_nil (hK8 _ ?_)
          clear hK8 K8
          refine wp_ret ?_
          refine ret2 (fn := Try.f57) rfl H rfl rfl ?_
          rw [due_arg (p := (⟨rates, pwn, ptn, pag⟩ : Part)) h0 (by rw [hpd]; (try dsimp only); omega)]; exact ⟨rfl, (S.sel [] rfl rfl)⟩
        · try simp only [Bool.or_eq_true, Bool.and_eq_true, Bool.not_eq_true', Bool.or_eq_false_iff, Bool.and_eq_false_iff, Bool.not_eq_false', decide_eq_true_eq, decide_eq_false_iff_not, Int.not_lt, Int.not_le] at hc2
          refine wp_skip ?_
          refine hK6 _ _ ?_
          have hd9 : (0 ≤ cls ∧ cls ≤ (rates.length : Int) - 1) ∧ prevD l l.length ≤ day ∧ day ≤ 100000 := by
            rw [hj9] at hc2; rw [hpd]; omega
          by_cases hA : wearE (⟨rates, pwn, ptn, pag⟩ : Part) l = 0
          · skip
            have hAt := (wearE_zero hA).2
            replace H := H.keep [1, 2, 3, 4] rfl
            refine seq_list (fun K9 hK9 => ?_)
            refine list_does H rfl (by first | exact does_loadIn agg_62 sz_62 rfl S hl (by omega) (by omega) | exact does_loadIn agg_62 sz_62 rfl S hr (by omega) (by omega) | exact does_loadBox agg_62 sz_62 rfl S (i := 0) rfl rfl) ?_; clear H a; intro a H
            refine list_does H rfl (does_move rfl) ?_; clear H a; intro a H
            refine list_call H rfl rfl Try.func73 rfl rfl (ret_imp (ref_wear rates pwn ptn pag RA rcp l A cp _ (hr.now S) hrn (hl.now S) hn hok h0) (fun _ _ => wearR_yes hA)) ?_; clear H a
            rintro _ _ a ⟨A', c', rfl, S2⟩ H
            replace S := S.call S2; clear S2
            refine list_does H rfl (does_move rfl) ?_; clear H a; intro a H
            refine list_does H rfl (does_extract rfl rfl) ?_; clear H a; intro a H
            refine list_does H rfl (does_extract rfl rfl) ?_; clear H a; intro a H
            refine list_does H rfl (does_assign rfl) ?_; clear H a; intro a H
            refine list_does H rfl (does_assign rfl) ?_; clear H a; intro a H
            refine hK9 _ _ ?_
            clear hK9 K9
            refine wp_seq_k (fun K10 hK10 => ?_)
            replace H := H.keep [1, 2, 3, 4, 10, 11] rfl
            refine seq_still (fun K11 hK11 => ?_)
            refine still_does H rfl (does_move rfl) ?_; clear H a; intro a H
            refine still_does H rfl (does_neq rfl rfl) ?_; clear H a; intro a H
            refine wpStill_nil (hK11 _ ?_)
            clear hK11 K11
            refine cond_ H rfl (fun hc3 => ?_) (fun hc3 => ?_)
            · try simp only [Bool.or_eq_true, Bool.and_eq_true, Bool.not_eq_true', Bool.or_eq_false_iff, Bool.and_eq_false_iff, Bool.not_eq_false', decide_eq_true_eq, decide_eq_false_iff_not, Int.not_lt, Int.not_le] at hc3
              all_goals first | (exfalso; omega) | (simp at hc3)
            · try simp only [Bool.or_eq_true, Bool.and_eq_true, Bool.not_eq_true', Bool.or_eq_false_iff, Bool.and_eq_false_iff, Bool.not_eq_false', decide_eq_true_eq, decide_eq_false_iff_not, Int.not_lt, Int.not_le] at hc3
              refine wp_skip ?_
              refine hK10 _ _ ?_
              replace H := H.keep [1, 2, 3, 4, 11] rfl
              refine seq_still (fun K12 hK12 => ?_)
              refine still_does H rfl (does_assign rfl) ?_; clear H a; intro a H
              refine still_does H rfl (does_assign rfl) ?_; clear H a; intro a H
              refine wpStill_nil (hK12 _ ?_)
              clear hK12 K12
              refine wp_seq_k (fun K13 hK13 => ?_)
              replace H := H.keep [1, 2, 3, 4, 11, 12, 13] rfl
              refine seq_still (fun K14 hK14 => ?_)
              refine still_does H rfl (does_assign rfl) ?_; clear H a; intro a H
              refine wpStill_nil (hK14 _ ?_)
              clear hK14 K14
              refine wp_block ?_
              refine loop_st (X := Nat × Int) (R0 := _) [1, 2, 3, 4, 11] H rfl (fun ⟨k, x⟩ => [(12, .int .i64 (sumT l k)), (13, .int .i64 x), (14, .int .i64 (k : Int))]) (fun ⟨k, x⟩ => []) (fun g ⟨k, x⟩ => k ≤ l.length ∧ g + k = l.length ∧ x = if k = 0 then 0 else (wearAt (⟨rates, pwn, ptn, pag⟩ : Part) l (k - 1)).2) (l.length) (0, 0) ?_ (S.sel [0, 1] rfl rfl) (H.keep [12, 13, 14, 1, 2, 3, 4, 11] rfl) ?_
              · exact ⟨by omega, by omega, rfl⟩
              · intro g1 x1 a w1 hp S H K15 hK15
                obtain ⟨k, x⟩ := x1
                dsimp only at hp S H
                refine wp_seq_k (fun K16 hK16 => ?_)
                replace H := H.keep [1, 2, 3, 4, 11, 12, 13, 14] rfl
                refine seq_still (fun K17 hK17 => ?_)
                refine still_does H rfl (does_move rfl) ?_; clear H a; intro a H
                refine still_does H rfl (does_move rfl) ?_; clear H a; intro a H
                refine still_does H rfl (does_len sl_63 rfl) ?_; clear H a; intro a H
                refine still_does H rfl (does_lss rfl rfl) ?_; clear H a; intro a H
                refine wpStill_nil (hK17 _ ?_)
                clear hK17 K17
                refine cond_ H rfl (fun hc4 => ?_) (fun hc4 => ?_)
                · try simp only [Bool.or_eq_true, Bool.and_eq_true, Bool.not_eq_true', Bool.or_eq_false_iff, Bool.and_eq_false_iff, Bool.not_eq_false', decide_eq_true_eq, decide_eq_false_iff_not, Int.not_lt, Int.not_le] at hc4
                  refine wp_skip ?_
                  refine hK16 _ _ ?_
                  refine wp_seq_k (fun K18 hK18 => ?_)
                  refine wp_block ?_
                  have hsb := sumT_bd hok k (by omega)
                  have hu := hok.use (k := k) (by omega); unfold useOk at hu; simp only [decide_eq_true_eq] at hu
                  replace H := H.keep [1, 2, 3, 4, 11, 12, 14] rfl
                  refine seq_still (fun K19 hK19 => ?_)
                  refine still_does H rfl (does_move rfl) ?_; clear H a; intro a H
                  refine still_does H rfl (does_move rfl) ?_; clear H a; intro a H
                  refine still_does H rfl (does_move rfl) ?_; clear H a; intro a H
                  refine still_does H rfl (by first | exact does_indexN sl_63 sz_70 rfl rfl (by first | exact hl.adr (by omega) | exact hr.adr (by omega) | exact ownM.adr S (i := 0) rfl (by omega)) (by first | omega | omega) | exact does_index sl_63 sz_70 rfl rfl (by first | exact hl.adr (by omega) | exact hr.adr (by omega) | exact ownM.adr S (i := 0) rfl (by omega)) (by omega) (by first | omega | omega)) ?_; clear H a; intro a H
                  refine still_does H rfl (by first | exact does_field_pt fo_70_1 rfl | exact does_field fo_70_1 rfl) ?_; clear H a; intro a H
                  refine still_does H rfl (does_load one_3 rfl (by first | exact hl.rd S (by omega) (by omega) | exact hr.rd S (by omega) (by omega) | exact ownM.rd S (i := 0) rfl (by omega) (by omega) | exact boxM.rd S (i := 0) rfl rfl | exact boxM.rd S (i := 1) rfl rfl)) ?_; clear H a; intro a H
                  refine still_does H rfl (does_add rfl rfl (by unfold i64ok; omega)) ?_; clear H a; intro a H
                  refine still_does H rfl (does_assign rfl) ?_; clear H a; intro a H
                  refine wpStill_nil (hK19 _ ?_)
                  clear hK19 K19
                  replace H := H.keep [1, 2, 3, 4, 11, 12, 14] rfl
                  refine one_still ?_
                  refine still_does H rfl (does_move rfl) ?_; clear H a; intro a H
                  refine still_does H rfl (does_move rfl) ?_; clear H a; intro a H
                  refine still_does H rfl (by first | exact does_indexN sl_37 sz_42 rfl rfl (by first | exact hl.adr (by omega) | exact hr.adr (by omega) | exact ownM.adr S (i := 0) rfl (by omega)) (by first | omega | omega) | exact does_index sl_37 sz_42 rfl rfl (by first | exact hl.adr (by omega) | exact hr.adr (by omega) | exact ownM.adr S (i := 0) rfl (by omega)) (by omega) (by first | omega | omega)) ?_; clear H a; intro a H
                  refine still_does H rfl (by first | exact does_field_pt fo_42_1 rfl | exact does_field fo_42_1 rfl) ?_; clear H a; intro a H
                  refine still_does H rfl (does_load one_3 rfl (by first | exact hl.rd S (by omega) (by omega) | exact hr.rd S (by omega) (by omega) | exact ownM.rd S (i := 0) rfl (by omega) (by omega) | exact boxM.rd S (i := 0) rfl rfl | exact boxM.rd S (i := 1) rfl rfl)) ?_; clear H a; intro a H
                  refine still_does H rfl (does_assign rfl) ?_; clear H a; intro a H
                  refine wpStill_nil ?_
                  refine hK18 _ _ ?_
                  replace H := H.keep [1, 2, 3, 4, 11, 12, 13, 14] rfl
                  refine one_still ?_
                  refine still_does H rfl (does_move rfl) ?_; clear H a; intro a H
                  refine still_does H rfl (does_add rfl rfl (by unfold i64ok; omega)) ?_; clear H a; intro a H
                  refine still_does H rfl (does_assign rfl) ?_; clear H a; intro a H
                  refine wpStill_nil ?_
                  exact hK15 (g1 - 1) (k + 1, _) a _ (by omega) (⟨by omega, by omega, by rw [if_neg (by omega)]; rfl⟩) (S.sel [0, 1] rfl rfl) (H.keep [12, 13, 14, 1, 2, 3, 4, 11] rfl)
                · try simp only [Bool.or_eq_true, Bool.and_eq_true, Bool.not_eq_true', Bool.or_eq_false_iff, Bool.and_eq_false_iff, Bool.not_eq_false', decide_eq_true_eq, decide_eq_false_iff_not, Int.not_lt, Int.not_le] at hc4
                  refine wp_exit ?_
                  refine hK13 _ _ ?_
                  refine wp_seq_k (fun K22 hK22 => ?_)
                  have hk9 : k = l.length := by omega
                  have hsb := sumT_bd hok k (by omega)
                  have hp9 : x = wearEnd (⟨rates, pwn, ptn, pag⟩ : Part) l := by
                    rw [hp.2.2, hk9]; unfold wearEnd
                    by_cases h : l.length = 0
                    · rw [if_pos h, if_pos h]
                    · rw [if_neg h, if_neg h, wearAt_last (by omega)]
                  have hwb : -40000000000000 ≤ x ∧ x ≤ 40000000000000 := by
                    rw [hp9]; unfold wearEnd; split
                    · omega
                    · have := fwd_bd hok l.length (Nat.le_refl _); omega
                  replace H := H.keep [2, 3, 4, 12, 13] rfl
                  refine seq_still (fun K23 hK23 => ?_)
                  refine still_does H rfl (does_move rfl) ?_; clear H a; intro a H
                  refine still_does H rfl (by first | exact does_field_pt fo_62_1 rfl | exact does_field fo_62_1 rfl) ?_; clear H a; intro a H
                  refine still_does H rfl (does_load one_3 rfl (by first | exact hl.rd S (by omega) (by omega) | exact hr.rd S (by omega) (by omega) | exact ownM.rd S (i := 0) rfl (by omega) (by omega) | exact boxM.rd S (i := 0) rfl rfl | exact boxM.rd S (i := 1) rfl rfl)) ?_; clear H a; intro a H
                  refine still_does H rfl (does_mul rfl rfl (by unfold i64ok; omega)) ?_; clear H a; intro a H
                  refine still_does H rfl (does_gtr rfl rfl) ?_; clear H a; intro a H
                  refine still_does H rfl (does_move rfl) ?_; clear H a; intro a H
                  apply still_guard (i := 5) (g := 83) (t := 87) (b := false) 4 H rfl rfl (by kernel_rfl) (by kernel_rfl) rfl rfl
                  case h1 =>
                    intro hg6
                    have hq6 := hg6; try simp only [Bool.or_eq_true, Bool.and_eq_true, Bool.not_eq_true', Bool.or_eq_false_iff, Bool.and_eq_false_iff, Bool.not_eq_false', decide_eq_true_eq, decide_eq_false_iff_not, Int.not_lt, Int.not_le] at hq6
                    refine still_yes' H rfl rfl (by assumption) ?_
                    refine still_does H rfl (does_move rfl) ?_; intro a H
                    refine still_yes' H rfl rfl (by assumption) ?_
                    refine still_does H rfl (by first | exact does_field_pt fo_62_2 rfl | exact does_field fo_62_2 rfl) ?_; intro a H
                    refine still_yes' H rfl rfl (by assumption) ?_
                    refine still_does H rfl (does_load one_3 rfl (by first | exact hl.rd S (by omega) (by omega) | exact hr.rd S (by omega) (by omega) | exact ownM.rd S (i := 0) rfl (by omega) (by omega) | exact boxM.rd S (i := 0) rfl rfl | exact boxM.rd S (i := 1) rfl rfl)) ?_; intro a H
                    refine still_yes' H rfl rfl (by assumption) ?_
                    refine still_does H rfl (does_gtr rfl rfl) ?_; intro a H
                    exact wpStill_nil (H.strip 4 rfl rfl)
                  case k =>
                    clear H a; intro a H
                    refine still_does H rfl (by first | exact does_or rfl rfl rfl | exact does_pick rfl rfl rfl) ?_; clear H a; intro a H
                    refine still_does H rfl (does_move rfl) ?_; clear H a; intro a H
                    apply still_guard (i := 11) (g := 89) (t := 93) (b := false) 4 H rfl rfl (by kernel_rfl) (by kernel_rfl) rfl rfl
                    case h1 =>
                      intro hg12
                      have hq12 := hg12; try simp only [Bool.or_eq_true, Bool.and_eq_true, Bool.not_eq_true', Bool.or_eq_false_iff, Bool.and_eq_false_iff, Bool.not_eq_false', decide_eq_true_eq, decide_eq_false_iff_not, Int.not_lt, Int.not_le] at hq12
                      refine still_yes' H rfl rfl (by assumption) ?_
                      refine still_does H rfl (does_move rfl) ?_; intro a H
                      refine still_yes' H rfl rfl (by assumption) ?_
                      refine still_does H rfl (by first | exact does_field_pt fo_62_3 rfl | exact does_field fo_62_3 rfl) ?_; intro a H
                      refine still_yes' H rfl rfl (by assumption) ?_
                      refine still_does H rfl (does_load one_3 rfl (by first | exact hl.rd S (by omega) (by omega) | exact hr.rd S (by omega) (by omega) | exact ownM.rd S (i := 0) rfl (by omega) (by omega) | exact boxM.rd S (i := 0) rfl rfl | exact boxM.rd S (i := 1) rfl rfl)) ?_; intro a H
                      refine still_yes' H rfl rfl (by assumption) ?_
                      refine still_does H rfl (does_gtr rfl rfl) ?_; intro a H
                      exact wpStill_nil (H.strip 4 rfl rfl)
                    case k =>
                      clear H a; intro a H
                      refine still_does H rfl (by first | exact does_or rfl rfl rfl | exact does_pick rfl rfl rfl) ?_; clear H a; intro a H
                      refine wpStill_nil (hK23 _ ?_)
                      clear hK23 K23
                      refine cond_ H rfl (fun hc5 => ?_) (fun hc5 => ?_)
                      · try simp only [Bool.or_eq_true, Bool.and_eq_true, Bool.not_eq_true', Bool.or_eq_false_iff, Bool.and_eq_false_iff, Bool.not_eq_false', decide_eq_true_eq, decide_eq_false_iff_not, Int.not_lt, Int.not_le] at hc5
                        replace H := H.keep [] rfl
                        refine seq_still (fun K24 hK24 => ?_)
                        refine still_does H rfl (does_assign rfl) ?_; clear H a; intro a H
                        refine still_does H rfl (does_assign rfl) ?_; clear H a; intro a H
                        refine wpStill_nil (hK24 _ ?_)
                        clear hK24 K24
                        refine wp_ret ?_
                        refine ret2 (fn := Try.f57) rfl H rfl rfl ?_
                        rw [due_gone (p := (⟨rates, pwn, ptn, pag⟩ : Part)) h0 hd9 hAt (by rw [← hp9, ← hk9]; (try dsimp only); omega)]; exact ⟨rfl, (S.sel [] rfl rfl)⟩
                      · try simp only [Bool.or_eq_true, Bool.and_eq_true, Bool.not_eq_true', Bool.or_eq_false_iff, Bool.and_eq_false_iff, Bool.not_eq_false', decide_eq_true_eq, decide_eq_false_iff_not, Int.not_lt, Int.not_le] at hc5
                        refine wp_skip ?_
                        refine hK22 _ _ ?_
                        replace H := H.keep [2, 4, 12, 13] rfl
                        refine seq_still (fun K25 hK25 => ?_)
                        refine still_does H rfl (by first | exact does_field_pt fo_62_2 rfl | exact does_field fo_62_2 rfl) ?_; clear H a; intro a H
                        refine still_does H rfl (does_load one_3 rfl (by first | exact hl.rd S (by omega) (by omega) | exact hr.rd S (by omega) (by omega) | exact ownM.rd S (i := 0) rfl (by omega) (by omega) | exact boxM.rd S (i := 0) rfl rfl | exact boxM.rd S (i := 1) rfl rfl)) ?_; clear H a; intro a H
                        refine still_does H rfl (does_move rfl) ?_; clear H a; intro a H
                        refine still_does H rfl (does_sub rfl rfl (by unfold i64ok; omega)) ?_; clear H a; intro a H
                        refine still_does H rfl (does_min rfl rfl) ?_; clear H a; intro a H
                        refine still_does H rfl (does_assign rfl) ?_; clear H a; intro a H
                        refine wpStill_nil (hK25 _ ?_)
                        clear hK25 K25
                        have hp1 := hp
                        have SR := (S.sel [0, 1] rfl rfl)
                        refine meet_sr (X := Int) [] H rfl (fun y => [(15, .int .i64 y)]) (fun y => []) (fun y => y = dueTurns (⟨rates, pwn, ptn, pag⟩ : Part) (sumT l l.length) (wearEnd (⟨rates, pwn, ptn, pag⟩ : Part) l) (rates.getD cls.toNat (0, 0)).2) SR (fun K27 hK27 => ?_) ?_
                        · skip
                          replace H := H.keep [2, 4, 13, 15] rfl
                          refine seq_still (fun K28 hK28 => ?_)
                          refine still_does H rfl (by first | exact does_field_pt fo_62_0 rfl | exact does_field fo_62_0 rfl) ?_; clear H a; intro a H
                          refine still_does H rfl (does_load one_37 rfl (by first | exact hl.rd S (by omega) (by omega) | exact hr.rd S (by omega) (by omega) | exact ownM.rd S (i := 0) rfl (by omega) (by omega) | exact boxM.rd S (i := 0) rfl rfl | exact boxM.rd S (i := 1) rfl rfl)) ?_; clear H a; intro a H
                          refine still_does H rfl (does_move rfl) ?_; clear H a; intro a H
                          refine still_does H rfl (by first | exact does_indexN sl_37 sz_42 rfl rfl (by first | exact hl.adr (by omega) | exact hr.adr (by omega) | exact ownM.adr S (i := 0) rfl (by omega)) (by first | omega | omega) | exact does_index sl_37 sz_42 rfl rfl (by first | exact hl.adr (by omega) | exact hr.adr (by omega) | exact ownM.adr S (i := 0) rfl (by omega)) (by omega) (by first | omega | omega)) ?_; clear H a; intro a H
                          refine still_does H rfl (by first | exact does_field_pt fo_42_1 rfl | exact does_field fo_42_1 rfl) ?_; clear H a; intro a H
                          refine still_does H rfl (does_load one_3 rfl (by first | exact hl.rd S (by omega) (by omega) | exact hr.rd S (by omega) (by omega) | exact ownM.rd S (i := 0) rfl (by omega) (by omega) | exact boxM.rd S (i := 0) rfl rfl | exact boxM.rd S (i := 1) rfl rfl)) ?_; clear H a; intro a H
                          refine still_does H rfl (does_assign rfl) ?_; clear H a; intro a H
                          refine wpStill_nil (hK28 _ ?_)
                          clear hK28 K28
                          replace H := H.keep [4, 13, 15, 16] rfl
                          refine seq_still (fun K29 hK29 => ?_)
                          refine still_does H rfl (does_move rfl) ?_; clear H a; intro a H
                          refine still_does H rfl (does_gtr rfl rfl) ?_; clear H a; intro a H
                          refine wpStill_nil (hK29 _ ?_)
                          clear hK29 K29
                          refine cond_ H rfl (fun hc6 => ?_) (fun hc6 => ?_)
                          · try simp only [Bool.or_eq_true, Bool.and_eq_true, Bool.not_eq_true', Bool.or_eq_false_iff, Bool.and_eq_false_iff, Bool.not_eq_false', decide_eq_true_eq, decide_eq_false_iff_not, Int.not_lt, Int.not_le] at hc6
                            replace H := H.keep [4, 13, 15, 16] rfl
                            refine one_still ?_
                            refine still_does H rfl (does_move rfl) ?_; clear H a; intro a H
                            refine still_does H rfl (by first | exact does_field_pt fo_62_1 rfl | exact does_field fo_62_1 rfl) ?_; clear H a; intro a H
                            refine still_does H rfl (does_load one_3 rfl (by first | exact hl.rd S (by omega) (by omega) | exact hr.rd S (by omega) (by omega) | exact ownM.rd S (i := 0) rfl (by omega) (by omega) | exact boxM.rd S (i := 0) rfl rfl | exact boxM.rd S (i := 1) rfl rfl)) ?_; clear H a; intro a H
                            refine still_does H rfl (does_mul rfl rfl (by unfold i64ok; omega)) ?_; clear H a; intro a H
                            refine still_does H rfl (does_move rfl) ?_; clear H a; intro a H
                            refine still_does H rfl (does_sub rfl rfl (by unfold i64ok; omega)) ?_; clear H a; intro a H
                            refine still_does H rfl (does_move rfl) ?_; clear H a; intro a H
                            refine still_does H rfl (does_quo rfl rfl (by omega) (by omega) (by omega)) ?_; clear H a; intro a H
                            refine still_does H rfl (does_min rfl rfl) ?_; clear H a; intro a H
                            refine still_does H rfl (does_assign rfl) ?_; clear H a; intro a H
                            refine wpStill_nil ?_
                            exact hK27 _ a _ (by unfold dueTurns; rw [if_pos (by exact hc6), ← hp9, ← hk9]) (S.sel [0, 1] rfl rfl) (H.keep [15] rfl)
                          · try simp only [Bool.or_eq_true, Bool.and_eq_true, Bool.not_eq_true', Bool.or_eq_false_iff, Bool.and_eq_false_iff, Bool.not_eq_false', decide_eq_true_eq, decide_eq_false_iff_not, Int.not_lt, Int.not_le] at hc6
                            refine wp_skip ?_
                            exact hK27 _ a _ (by unfold dueTurns; rw [if_neg (by exact Int.not_lt.2 hc6), ← hk9]) (S.sel [0, 1] rfl rfl) (H.keep [15] rfl)
                        · intro xm a wm hp S H
                          obtain ⟨y, rfl⟩ : ∃ y, y = xm := ⟨_, rfl⟩
                          clear SR
                          have hy := hp; replace hp := hp1
                          replace H := H.keep [15] rfl
                          refine seq_still (fun K31 hK31 => ?_)
                          refine still_does H rfl (does_move rfl) ?_; clear H a; intro a H
                          refine still_does H rfl (does_assign rfl) ?_; clear H a; intro a H
                          refine still_does H rfl (does_assign rfl) ?_; clear H a; intro a H
                          refine wpStill_nil (hK31 _ ?_)
                          clear hK31 K31
                          refine wp_ret ?_
                          refine ret2 (fn := Try.f57) rfl H rfl rfl ?_
                          rw [due_is (p := (⟨rates, pwn, ptn, pag⟩ : Part)) h0 hd9 hAt (by rw [← hp9, ← hk9]; (try dsimp only); omega), hy]; exact ⟨rfl, (S.sel [] rfl rfl)⟩
          · skip
            skip
            replace H := H.keep [1, 2, 3, 4] rfl
            refine seq_list (fun K32 hK32 => ?_)
            refine list_does H rfl (by first | exact does_loadIn agg_62 sz_62 rfl S hl (by omega) (by omega) | exact does_loadIn agg_62 sz_62 rfl S hr (by omega) (by omega) | exact does_loadBox agg_62 sz_62 rfl S (i := 0) rfl rfl) ?_; clear H a; intro a H
            refine list_does H rfl (does_move rfl) ?_; clear H a; intro a H
            refine list_call H rfl rfl Try.func73 rfl rfl (ret_imp (ref_wear rates pwn ptn pag RA rcp l A cp _ (hr.now S) hrn (hl.now S) hn hok h0) (fun _ _ => wearR_no hA)) ?_; clear H a
            rintro _ _ a ⟨rfl, S2⟩ H
            replace S := S.call S2; clear S2
            refine list_does H rfl (does_move rfl) ?_; clear H a; intro a H
            refine list_does H rfl (does_extract rfl rfl) ?_; clear H a; intro a H
            refine list_does H rfl (does_extract rfl rfl) ?_; clear H a; intro a H
            refine list_does H rfl (does_assign rfl) ?_; clear H a; intro a H
            refine list_does H rfl (does_assign rfl) ?_; clear H a; intro a H
            refine hK32 _ _ ?_
            clear hK32 K32
            refine wp_seq_k (fun K33 hK33 => ?_)
            replace H := H.keep [1, 2, 3, 4, 10, 11] rfl
            refine seq_still (fun K34 hK34 => ?_)
            refine still_does H rfl (does_move rfl) ?_; clear H a; intro a H
            refine still_does H rfl (does_neq rfl rfl) ?_; clear H a; intro a H
            refine wpStill_nil (hK34 _ ?_)
            clear hK34 K34
            refine cond_ H rfl (fun hc7 => ?_) (fun hc7 => ?_)
            · try simp only [Bool.or_eq_true, Bool.and_eq_true, Bool.not_eq_true', Bool.or_eq_false_iff, Bool.and_eq_false_iff, Bool.not_eq_false', decide_eq_true_eq, decide_eq_false_iff_not, Int.not_lt, Int.not_le] at hc7
              replace H := H.keep [10] rfl
              refine seq_still (fun K35 hK35 => ?_)
              refine still_does H rfl (does_move rfl) ?_; clear H a; intro a H
              refine still_does H rfl (does_assign rfl) ?_; clear H a; intro a H
              refine still_does H rfl (does_assign rfl) ?_; clear H a; intro a H
              refine wpStill_nil (hK35 _ ?_)
              clear hK35 K35
              refine wp_ret ?_
              refine ret2 (fn := Try.f57) rfl H rfl rfl ?_
              have e3 := wearE_none h0 (fun h => hA (wearE_ok h0 h))
              rw [due_none (p := (⟨rates, pwn, ptn, pag⟩ : Part)) h0 hd9 (fun h => hA (wearE_ok h0 h)), e3]; exact ⟨rfl, (S.sel [] rfl rfl)⟩
            · try simp only [Bool.or_eq_true, Bool.and_eq_true, Bool.not_eq_true', Bool.or_eq_false_iff, Bool.and_eq_false_iff, Bool.not_eq_false', decide_eq_true_eq, decide_eq_false_iff_not, Int.not_lt, Int.not_le] at hc7
              all_goals (exfalso; omega)

end Go.Proofs.Ytlejjfhgfajoiaa
