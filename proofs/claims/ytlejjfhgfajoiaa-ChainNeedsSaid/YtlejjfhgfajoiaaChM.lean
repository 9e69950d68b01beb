/- ChM. Printed by gen.py. -/
import Derived.Test.YtlejjfhgfajoiaaChL
import Derived.Test.YtlejjfhgfajoiaaAdd2
namespace Go.Proofs.Ytlejjfhgfajoiaa
open Go.RowKit
set_option linter.unusedVariables false
set_option linter.unusedSimpArgs false


set_option maxRecDepth 100000 in
set_option maxHeartbeats 1000000 in
theorem chain_forth (rates : List (Int × Int)) (pwn ptn pag : Int) (RA : Option Addr) (rcp : Nat) (l : List Use) (A : Option Addr) (cp : Nat) (w : World) (hr : InS w noF 2 RA rates.length (scell rates)) (hrn : rates.length ≤ 9223372036854775807) (hl : InS w noF 6 A l.length (ucell l)) (hn : l.length ≤ 9223372036854775807) (hok : PartOk (⟨rates, pwn, ptn, pag⟩ : Part) l) :
    Calls Try.prog 74 [.agg [.slice RA rates.length rcp, .int .i64 pwn, .int .i64 ptn, .int .i64 pag].toArray, .slice A l.length cp].toArray w (Ret (fun v w' => ∃ n A' c', IsAt (⟨rates, pwn, ptn, pag⟩ : Part) l n ∧ v = .tuple #[.slice A' n c', .int .i64 (n : Int)] ∧ St w noF [ownM 42 2 A' n c' (fcell (fun q => fwd (⟨rates, pwn, ptn, pag⟩ : Part) l (q + 1)))] w')) := by
  refine enter Try.func74 rfl Try.ntmps74 rfl (fun a H => ?_)
  have S := St.start w
  refine seq_list (fun K1 hK1 => ?_)
  refine list_box H rfl S rfl rfl ?_; clear H a S; intro b2 _ a hb2 hbw2 S H
  refine list_does H rfl (does_assign rfl) ?_; clear H a; intro a H
  refine list_does H rfl (does_assign rfl) ?_; clear H a; intro a H
  refine hK1 _ _ ?_
  clear hK1 K1
  replace H := H.keep [1, 2, 4] rfl
  refine seq_list (fun K2 hK2 => ?_)
  refine list_alloc H rfl S ze_42 ?_; clear H a S; intro b6 _ a hb6 hbw6 S H
  refine hK2 _ _ ?_
  clear hK2 K2
  refine wp_seq_k (fun K3 hK3 => ?_)
  replace H := H.keep [1, 2, 4, 6] rfl
  refine seq_still (fun K4 hK4 => ?_)
  refine still_does H rfl (does_move rfl) ?_; clear H a; intro a H
  refine still_does H rfl (does_len sl_63 rfl) ?_; clear H a; intro a H
  refine still_does H rfl (does_move rfl) ?_; clear H a; intro a H
  refine wpStill_nil (hK4 _ ?_)
  clear hK4 K4
  refine wp_block ?_
  replace S := S.newNil 42 2 (fcell (fun q => fwd (⟨rates, pwn, ptn, pag⟩ : Part) l (q + 1)))
  refine loop_st (X := Nat × Option Addr × Nat) (R0 := _) [1, 2, 6, 11, 12] H rfl (fun ⟨k, A', c'⟩ => [(4, .slice A' k c'), (13, .int .i64 (k : Int))]) (fun ⟨k, A', c'⟩ => [boxM b6 42 [.int .i64 (fwd (⟨rates, pwn, ptn, pag⟩ : Part) l k).1, .int .i64 (fwd (⟨rates, pwn, ptn, pag⟩ : Part) l k).2], ownM 42 2 A' k c' (fcell (fun q => fwd (⟨rates, pwn, ptn, pag⟩ : Part) l (q + 1)))]) (fun g ⟨k, A', c'⟩ => k ≤ l.length ∧ g + k = l.length ∧ ∀ q, q < k → fits (⟨rates, pwn, ptn, pag⟩ : Part) l q) (l.length) (0, none, 0) ?_ (S.sel [1, 0, 2] rfl rfl) (H.keep [4, 13, 1, 2, 6, 11, 12] rfl) ?_
  · exact ⟨by omega, by omega, fun q hq => by omega⟩
  · intro g1 x1 a w1 hp S H K5 hK5
    obtain ⟨k, A', c'⟩ := x1
    dsimp only at hp S H
    replace H := H.keep [1, 2, 4, 6, 11, 12, 13] rfl
    refine seq_still (fun K6 hK6 => ?_)
    refine still_does H rfl (does_lss rfl rfl) ?_; clear H a; intro a H
    refine wpStill_nil (hK6 _ ?_)
    clear hK6 K6
    refine wp_seq_k (fun K7 hK7 => ?_)
    refine cond_ H rfl (fun hc1 => ?_) (fun hc1 => ?_)
    · try simp only [Bool.or_eq_true, Bool.and_eq_true, Bool.not_eq_true', Bool.or_eq_false_iff, Bool.and_eq_false_iff, Bool.not_eq_false', decide_eq_true_eq, decide_eq_false_iff_not, Int.not_lt, Int.not_le] at hc1
      refine wp_skip ?_
      refine hK7 _ _ ?_
      refine wp_seq_k (fun K8 hK8 => ?_)
      refine wp_block ?_
      have hu := hok.use (k := k) (by omega); unfold useOk at hu; simp only [decide_eq_true_eq] at hu
      have hgb := grown_bd hok (k := k) (by omega)
      have hcls : 0 ≤ (l.getD k Use.zero).cls ∧ (l.getD k Use.zero).cls < rates.length := by
        have : ((⟨rates, pwn, ptn, pag⟩ : Part).rates.length : Int) = rates.length := rfl
        omega
      have hll := hok.len
      have hfb := fwd_bd hok k (by omega)
      replace H := H.keep [1, 2, 4, 6, 11, 12, 13] rfl
      refine seq_list (fun K9 hK9 => ?_)
      refine list_does H rfl (does_move rfl) ?_; clear H a; intro a H
      refine list_does H rfl (by first | exact does_indexN sl_63 sz_70 rfl rfl (by first | exact hl.adr (by omega) | exact hr.adr (by omega)) (by first | omega | omega) | exact does_index sl_63 sz_70 rfl rfl (by first | exact hl.adr (by omega) | exact hr.adr (by omega)) (by omega) (by first | omega | omega)) ?_; clear H a; intro a H
      refine list_does H rfl (by first | exact does_loadIn agg_70 sz_70 rfl S hl (by omega) (by omega) | exact does_loadIn agg_70 sz_70 rfl S hr (by omega) (by omega) | exact does_loadBox agg_70 sz_70 rfl S (i := 0) rfl rfl | exact does_loadBox agg_70 sz_70 rfl S (i := 1) rfl rfl | exact does_loadBox agg_70 sz_70 rfl S (i := 2) rfl rfl) ?_; clear H a; intro a H
      refine list_alloc H rfl S ze_70 ?_; clear H a S; intro b8 _ a hb8 hbw8 S H
      refine list_does H rfl (does_assign rfl) ?_; clear H a; intro a H
      first | (refine list_store H S (i := 0) rfl rfl rfl rfl sz_70 rfl rfl ?_) | (refine list_store H S (i := 1) rfl rfl rfl rfl sz_70 rfl rfl ?_) | (refine list_store H S (i := 2) rfl rfl rfl rfl sz_70 rfl rfl ?_) | (refine list_store H S (i := 3) rfl rfl rfl rfl sz_70 rfl rfl ?_) | (refine list_store_own H S (i := 0) rfl rfl rfl (by omega) (by omega) sz_70 rfl ?_) | (refine list_store_own H S (i := 1) rfl rfl rfl (by omega) (by omega) sz_70 rfl ?_) | (refine list_store_own H S (i := 2) rfl rfl rfl (by omega) (by omega) sz_70 rfl ?_) | (refine list_store_own H S (i := 3) rfl rfl rfl (by omega) (by omega) sz_70 rfl ?_)
      clear H a S; intro _ a S H
      refine hK9 _ _ ?_
      clear hK9 K9
      replace H := H.keep [1, 2, 4, 6, 7, 8, 11, 12, 13] rfl
      refine seq_list (fun K10 hK10 => ?_)
      refine list_does H rfl (by first | exact does_loadIn agg_62 sz_62 rfl S hl (by omega) (by omega) | exact does_loadIn agg_62 sz_62 rfl S hr (by omega) (by omega) | exact does_loadBox agg_62 sz_62 rfl S (i := 0) rfl rfl | exact does_loadBox agg_62 sz_62 rfl S (i := 1) rfl rfl | exact does_loadBox agg_62 sz_62 rfl S (i := 2) rfl rfl | exact does_loadBox agg_62 sz_62 rfl S (i := 3) rfl rfl) ?_; clear H a; intro a H
      refine list_does H rfl (by first | exact does_loadIn agg_70 sz_70 rfl S hl (by omega) (by omega) | exact does_loadIn agg_70 sz_70 rfl S hr (by omega) (by omega) | exact does_loadBox agg_70 sz_70 rfl S (i := 0) rfl rfl | exact does_loadBox agg_70 sz_70 rfl S (i := 1) rfl rfl | exact does_loadBox agg_70 sz_70 rfl S (i := 2) rfl rfl | exact does_loadBox agg_70 sz_70 rfl S (i := 3) rfl rfl) ?_; clear H a; intro a H
      refine list_call H rfl rfl Try.func86 rfl rfl (chain_grown rates pwn ptn pag RA rcp (l.getD k Use.zero) _ (hr.now S) hrn hcls (by unfold i64ok; omega) (by unfold i64ok; omega)) ?_; clear H a
      rintro _ _ a ⟨rfl, S2⟩ H
      replace S := S.call S2; clear S2
      refine list_alloc H rfl S ze_42 ?_; clear H a S; intro b9 _ a hb9 hbw9 S H
      first | (refine list_store H S (i := 0) rfl rfl rfl rfl sz_42 rfl rfl ?_) | (refine list_store H S (i := 1) rfl rfl rfl rfl sz_42 rfl rfl ?_) | (refine list_store H S (i := 2) rfl rfl rfl rfl sz_42 rfl rfl ?_) | (refine list_store H S (i := 3) rfl rfl rfl rfl sz_42 rfl rfl ?_) | (refine list_store H S (i := 4) rfl rfl rfl rfl sz_42 rfl rfl ?_) | (refine list_store_own H S (i := 0) rfl rfl rfl (by omega) (by omega) sz_42 rfl ?_) | (refine list_store_own H S (i := 1) rfl rfl rfl (by omega) (by omega) sz_42 rfl ?_) | (refine list_store_own H S (i := 2) rfl rfl rfl (by omega) (by omega) sz_42 rfl ?_) | (refine list_store_own H S (i := 3) rfl rfl rfl (by omega) (by omega) sz_42 rfl ?_) | (refine list_store_own H S (i := 4) rfl rfl rfl (by omega) (by omega) sz_42 rfl ?_)
      clear H a S; intro _ a S H
      refine hK10 _ _ ?_
      clear hK10 K10
      replace H := H.keep [1, 2, 4, 6, 7, 8, 9, 11, 12, 13] rfl
      refine seq_list (fun K11 hK11 => ?_)
      refine list_does H rfl (by first | exact does_field_pt fo_42_0 rfl | exact does_field fo_42_0 rfl) ?_; clear H a; intro a H
      refine list_does H rfl (does_load one_3 rfl (by first | exact boxM.rd S (i := 0) rfl rfl | exact boxM.rd S (i := 1) rfl rfl | exact boxM.rd S (i := 2) rfl rfl | exact boxM.rd S (i := 3) rfl rfl | exact boxM.rd S (i := 4) rfl rfl)) ?_; clear H a; intro a H
      refine list_does H rfl (by first | exact does_field_pt fo_42_0 rfl | exact does_field fo_42_0 rfl) ?_; clear H a; intro a H
      refine list_does H rfl (does_load one_3 rfl (by first | exact boxM.rd S (i := 0) rfl rfl | exact boxM.rd S (i := 1) rfl rfl | exact boxM.rd S (i := 2) rfl rfl | exact boxM.rd S (i := 3) rfl rfl | exact boxM.rd S (i := 4) rfl rfl)) ?_; clear H a; intro a H
      refine list_does H rfl (does_add rfl rfl (by unfold i64ok; omega)) ?_; clear H a; intro a H
      refine list_does H rfl (by first | exact does_field_pt fo_42_1 rfl | exact does_field fo_42_1 rfl) ?_; clear H a; intro a H
      refine list_does H rfl (does_load one_3 rfl (by first | exact boxM.rd S (i := 0) rfl rfl | exact boxM.rd S (i := 1) rfl rfl | exact boxM.rd S (i := 2) rfl rfl | exact boxM.rd S (i := 3) rfl rfl | exact boxM.rd S (i := 4) rfl rfl)) ?_; clear H a; intro a H
      refine list_does H rfl (by first | exact does_field_pt fo_42_1 rfl | exact does_field fo_42_1 rfl) ?_; clear H a; intro a H
      refine list_does H rfl (does_load one_3 rfl (by first | exact boxM.rd S (i := 0) rfl rfl | exact boxM.rd S (i := 1) rfl rfl | exact boxM.rd S (i := 2) rfl rfl | exact boxM.rd S (i := 3) rfl rfl | exact boxM.rd S (i := 4) rfl rfl)) ?_; clear H a; intro a H
      refine list_does H rfl (does_add rfl rfl (by unfold i64ok; omega)) ?_; clear H a; intro a H
      refine list_does H rfl (does_build bt_42 rfl rfl) ?_; clear H a; intro a H
      first | (refine list_store H S (i := 0) rfl rfl rfl rfl sz_42 rfl rfl ?_) | (refine list_store H S (i := 1) rfl rfl rfl rfl sz_42 rfl rfl ?_) | (refine list_store H S (i := 2) rfl rfl rfl rfl sz_42 rfl rfl ?_) | (refine list_store H S (i := 3) rfl rfl rfl rfl sz_42 rfl rfl ?_) | (refine list_store H S (i := 4) rfl rfl rfl rfl sz_42 rfl rfl ?_) | (refine list_store_own H S (i := 0) rfl rfl rfl (by omega) (by omega) sz_42 rfl ?_) | (refine list_store_own H S (i := 1) rfl rfl rfl (by omega) (by omega) sz_42 rfl ?_) | (refine list_store_own H S (i := 2) rfl rfl rfl (by omega) (by omega) sz_42 rfl ?_) | (refine list_store_own H S (i := 3) rfl rfl rfl (by omega) (by omega) sz_42 rfl ?_) | (refine list_store_own H S (i := 4) rfl rfl rfl (by omega) (by omega) sz_42 rfl ?_)
      clear H a S; intro _ a S H
      refine hK11 _ _ ?_
      clear hK11 K11
      refine wp_seq_k (fun K12 hK12 => ?_)
      replace H := H.keep [1, 2, 4, 6, 7, 8, 11, 12, 13] rfl
      refine seq_still (fun K13 hK13 => ?_)
      refine still_does H rfl (by first | exact does_field_pt fo_70_3 rfl | exact does_field fo_70_3 rfl) ?_; clear H a; intro a H
      refine still_does H rfl (does_load one_4 rfl (by first | exact boxM.rd S (i := 0) rfl rfl | exact boxM.rd S (i := 1) rfl rfl | exact boxM.rd S (i := 2) rfl rfl | exact boxM.rd S (i := 3) rfl rfl | exact boxM.rd S (i := 4) rfl rfl)) ?_; clear H a; intro a H
      refine wpStill_nil (hK13 _ ?_)
      clear hK13 K13
      refine cond_ H rfl (fun hc2 => ?_) (fun hc2 => ?_)
      · try simp only [Bool.or_eq_true, Bool.and_eq_true, Bool.not_eq_true', Bool.or_eq_false_iff, Bool.and_eq_false_iff, Bool.not_eq_false', decide_eq_true_eq, decide_eq_false_iff_not, Int.not_lt, Int.not_le] at hc2
        replace H := H.keep [1, 2, 4, 6, 7, 8, 11, 12, 13] rfl
        refine seq_still (fun K14 hK14 => ?_)
        refine still_does H rfl (does_assign rfl) ?_; clear H a; intro a H
        refine wpStill_nil (hK14 _ ?_)
        clear hK14 K14
        replace H := H.keep [1, 2, 4, 6, 7, 8, 11, 12, 13] rfl
        refine seq_list (fun K15 hK15 => ?_)
        refine list_does H rfl (by first | exact does_loadIn agg_42 sz_42 rfl S hl (by omega) (by omega) | exact does_loadIn agg_42 sz_42 rfl S hr (by omega) (by omega) | exact does_loadBox agg_42 sz_42 rfl S (i := 0) rfl rfl | exact does_loadBox agg_42 sz_42 rfl S (i := 1) rfl rfl | exact does_loadBox agg_42 sz_42 rfl S (i := 2) rfl rfl | exact does_loadBox agg_42 sz_42 rfl S (i := 3) rfl rfl | exact does_loadBox agg_42 sz_42 rfl S (i := 4) rfl rfl) ?_; clear H a; intro a H
        refine list_does H rfl (by first | exact does_field_pt fo_70_4 rfl | exact does_field fo_70_4 rfl) ?_; clear H a; intro a H
        refine list_does H rfl (by first | exact does_loadIn agg_42 sz_42 rfl S hl (by omega) (by omega) | exact does_loadIn agg_42 sz_42 rfl S hr (by omega) (by omega) | exact does_loadBox agg_42 sz_42 rfl S (i := 0) rfl rfl | exact does_loadBox agg_42 sz_42 rfl S (i := 1) rfl rfl | exact does_loadBox agg_42 sz_42 rfl S (i := 2) rfl rfl | exact does_loadBox agg_42 sz_42 rfl S (i := 3) rfl rfl | exact does_loadBox agg_42 sz_42 rfl S (i := 4) rfl rfl) ?_; clear H a; intro a H
        refine list_call H rfl rfl Try.func87 rfl rfl (chain_meet _ _ _ _ _) ?_; clear H a
        rintro _ _ a ⟨rfl, S2⟩ H
        replace S := S.call S2; clear S2
        refine list_does H rfl (does_move rfl) ?_; clear H a; intro a H
        refine list_does H rfl (does_extract rfl rfl) ?_; clear H a; intro a H
        refine list_does H rfl (does_extract rfl rfl) ?_; clear H a; intro a H
        first | (refine list_store H S (i := 0) rfl rfl rfl rfl sz_42 rfl rfl ?_) | (refine list_store H S (i := 1) rfl rfl rfl rfl sz_42 rfl rfl ?_) | (refine list_store H S (i := 2) rfl rfl rfl rfl sz_42 rfl rfl ?_) | (refine list_store H S (i := 3) rfl rfl rfl rfl sz_42 rfl rfl ?_) | (refine list_store H S (i := 4) rfl rfl rfl rfl sz_42 rfl rfl ?_) | (refine list_store_own H S (i := 0) rfl rfl rfl (by omega) (by omega) sz_42 rfl ?_) | (refine list_store_own H S (i := 1) rfl rfl rfl (by omega) (by omega) sz_42 rfl ?_) | (refine list_store_own H S (i := 2) rfl rfl rfl (by omega) (by omega) sz_42 rfl ?_) | (refine list_store_own H S (i := 3) rfl rfl rfl (by omega) (by omega) sz_42 rfl ?_) | (refine list_store_own H S (i := 4) rfl rfl rfl (by omega) (by omega) sz_42 rfl ?_)
        clear H a S; intro _ a S H
        refine list_does H rfl (does_assign rfl) ?_; clear H a; intro a H
        refine hK15 _ _ ?_
        clear hK15 K15
        replace H := H.keep [1, 2, 4, 6, 7, 10, 11, 12, 13] rfl
        refine seq_still (fun K16 hK16 => ?_)
        refine still_does H rfl (does_move rfl) ?_; clear H a; intro a H
        refine still_does H rfl (does_not rfl) ?_; clear H a; intro a H
        refine wpStill_nil (hK16 _ ?_)
        clear hK16 K16
        refine cond_ H rfl (fun hc3 => ?_) (fun hc3 => ?_)
        · try simp only [Bool.or_eq_true, Bool.and_eq_true, Bool.not_eq_true', Bool.or_eq_false_iff, Bool.and_eq_false_iff, Bool.not_eq_false', decide_eq_true_eq, decide_eq_false_iff_not, Int.not_lt, Int.not_le] at hc3
          replace H := H.keep [4, 7] rfl
          refine seq_still (fun K17 hK17 => ?_)
          refine still_does H rfl (does_move rfl) ?_; clear H a; intro a H
          refine still_does H rfl (does_move rfl) ?_; clear H a; intro a H
          refine still_does H rfl (does_assign rfl) ?_; clear H a; intro a H
          refine still_does H rfl (does_assign rfl) ?_; clear H a; intro a H
          refine wpStill_nil (hK17 _ ?_)
          clear hK17 K17
          refine wp_ret ?_
          refine ret2 (fn := Try.f74) rfl H rfl rfl ?_
          refine ⟨k, A', c', ⟨by omega, hp.2.2, fun _ hf => ?_⟩, rfl, (S.sel [3] rfl rfl)⟩
          have h9 := hf hc2
          rw [fwd_meas hc2] at h9
          exact absurd h9 (Int.not_le.2 hc3)
        · try simp only [Bool.or_eq_true, Bool.and_eq_true, Bool.not_eq_true', Bool.or_eq_false_iff, Bool.and_eq_false_iff, Bool.not_eq_false', decide_eq_true_eq, decide_eq_false_iff_not, Int.not_lt, Int.not_le] at hc3
          refine wp_skip ?_
          refine hK12 _ _ ?_
          have e9 := (by first | exact fwd_meas (p := (⟨rates, pwn, ptn, pag⟩ : Part)) hc2 | exact fwd_not (p := (⟨rates, pwn, ptn, pag⟩ : Part)) hc2 : fwd (⟨rates, pwn, ptn, pag⟩ : Part) l (k + 1) = _)
          replace H := H.keep [1, 2, 4, 6, 11, 12, 13] rfl
          refine one_list ?_
          refine list_does H rfl (does_move rfl) ?_; clear H a; intro a H
          refine list_does H rfl (by first | exact does_loadIn agg_42 sz_42 rfl S hl (by omega) (by omega) | exact does_loadIn agg_42 sz_42 rfl S hr (by omega) (by omega) | exact does_loadBox agg_42 sz_42 rfl S (i := 0) rfl rfl | exact does_loadBox agg_42 sz_42 rfl S (i := 1) rfl rfl | exact does_loadBox agg_42 sz_42 rfl S (i := 2) rfl rfl | exact does_loadBox agg_42 sz_42 rfl S (i := 3) rfl rfl | exact does_loadBox agg_42 sz_42 rfl S (i := 4) rfl rfl) ?_; clear H a; intro a H
          refine list_build' H rfl S sl_37 sz_42 ze_42 rfl rfl rfl rfl rfl rfl rfl rfl rfl ?_; clear H a S; intro A1 _ a hA1 S H
          refine list_append H rfl S sl_37 sz_42 ze_42 by_42 rfl rfl (i := 4) rfl rfl rfl (ownM.inS S (i := 0) rfl) (one_vs (two rfl rfl)) (by omega) (by omega) ?_; clear H a S; intro A2 c2 _ a S H
          replace S := S.recell (i := 4) rfl (cell' := fcell (fun q => fwd (⟨rates, pwn, ptn, pag⟩ : Part) l (q + 1))) (capp_one (two (by show _ = Value.int .i64 (fwd (⟨rates, pwn, ptn, pag⟩ : Part) l (k + 1)).1; rw [e9]; rfl) (by show _ = Value.int .i64 (fwd (⟨rates, pwn, ptn, pag⟩ : Part) l (k + 1)).2; rw [e9]; rfl)))
          refine list_does H rfl (does_assign rfl) ?_; clear H a; intro a H
          refine hK8 _ _ ?_
          replace H := H.keep [1, 2, 4, 6, 11, 12, 13] rfl
          refine one_still ?_
          refine still_does H rfl (does_add rfl rfl (by unfold i64ok; omega)) ?_; clear H a; intro a H
          refine still_does H rfl (does_move rfl) ?_; clear H a; intro a H
          refine wpStill_nil ?_
          replace S := boxM.same S (i := 3) (cs' := [.int .i64 (fwd (⟨rates, pwn, ptn, pag⟩ : Part) l (k + 1)).1, .int .i64 (fwd (⟨rates, pwn, ptn, pag⟩ : Part) l (k + 1)).2]) rfl (by rw [e9]; rfl)
          exact hK5 (g1 - 1) (k + 1, _, _) a _ (by omega) (⟨by omega, by omega, fun q hq => by
            by_cases h : q = k
            · subst h; first | exact fits_not hc2 | (intro _; rw [e9]; exact hc3)
            · exact hp.2.2 q (by omega)⟩) (S.sel [3, 4, 5] rfl rfl) (H.keep [4, 13, 1, 2, 6, 11, 12] rfl)
      · try simp only [Bool.or_eq_true, Bool.and_eq_true, Bool.not_eq_true', Bool.or_eq_false_iff, Bool.and_eq_false_iff, Bool.not_eq_false', decide_eq_true_eq, decide_eq_false_iff_not, Int.not_lt, Int.not_le] at hc2
        refine wp_skip ?_
        refine hK12 _ _ ?_
        have e9 := (by first | exact fwd_meas (p := (⟨rates, pwn, ptn, pag⟩ : Part)) hc2 | exact fwd_not (p := (⟨rates, pwn, ptn, pag⟩ : Part)) hc2 : fwd (⟨rates, pwn, ptn, pag⟩ : Part) l (k + 1) = _)
        replace H := H.keep [1, 2, 4, 6, 11, 12, 13] rfl
        refine one_list ?_
        refine list_does H rfl (does_move rfl) ?_; clear H a; intro a H
        refine list_does H rfl (by first | exact does_loadIn agg_42 sz_42 rfl S hl (by omega) (by omega) | exact does_loadIn agg_42 sz_42 rfl S hr (by omega) (by omega) | exact does_loadBox agg_42 sz_42 rfl S (i := 0) rfl rfl | exact does_loadBox agg_42 sz_42 rfl S (i := 1) rfl rfl | exact does_loadBox agg_42 sz_42 rfl S (i := 2) rfl rfl | exact does_loadBox agg_42 sz_42 rfl S (i := 3) rfl rfl | exact does_loadBox agg_42 sz_42 rfl S (i := 4) rfl rfl) ?_; clear H a; intro a H
        refine list_build' H rfl S sl_37 sz_42 ze_42 rfl rfl rfl rfl rfl rfl rfl rfl rfl ?_; clear H a S; intro A3 _ a hA3 S H
        refine list_append H rfl S sl_37 sz_42 ze_42 by_42 rfl rfl (i := 4) rfl rfl rfl (ownM.inS S (i := 0) rfl) (one_vs (two rfl rfl)) (by omega) (by omega) ?_; clear H a S; intro A4 c4 _ a S H
        replace S := S.recell (i := 4) rfl (cell' := fcell (fun q => fwd (⟨rates, pwn, ptn, pag⟩ : Part) l (q + 1))) (capp_one (two (by show _ = Value.int .i64 (fwd (⟨rates, pwn, ptn, pag⟩ : Part) l (k + 1)).1; rw [e9]; rfl) (by show _ = Value.int .i64 (fwd (⟨rates, pwn, ptn, pag⟩ : Part) l (k + 1)).2; rw [e9]; rfl)))
        refine list_does H rfl (does_assign rfl) ?_; clear H a; intro a H
        refine hK8 _ _ ?_
        replace H := H.keep [1, 2, 4, 6, 11, 12, 13] rfl
        refine one_still ?_
        refine still_does H rfl (does_add rfl rfl (by unfold i64ok; omega)) ?_; clear H a; intro a H
        refine still_does H rfl (does_move rfl) ?_; clear H a; intro a H
        refine wpStill_nil ?_
        replace S := boxM.same S (i := 3) (cs' := [.int .i64 (fwd (⟨rates, pwn, ptn, pag⟩ : Part) l (k + 1)).1, .int .i64 (fwd (⟨rates, pwn, ptn, pag⟩ : Part) l (k + 1)).2]) rfl (by rw [e9]; rfl)
        exact hK5 (g1 - 1) (k + 1, _, _) a _ (by omega) (⟨by omega, by omega, fun q hq => by
          by_cases h : q = k
          · subst h; first | exact fits_not hc2 | (intro _; rw [e9]; exact hc3)
          · exact hp.2.2 q (by omega)⟩) (S.sel [3, 4, 5] rfl rfl) (H.keep [4, 13, 1, 2, 6, 11, 12] rfl)
    · try simp only [Bool.or_eq_true, Bool.and_eq_true, Bool.not_eq_true', Bool.or_eq_false_iff, Bool.and_eq_false_iff, Bool.not_eq_false', decide_eq_true_eq, decide_eq_false_iff_not, Int.not_lt, Int.not_le] at hc1
      refine wp_exit ?_
      refine hK3 _ _ ?_
      replace H := H.keep [1, 4] rfl
      refine seq_still (fun K22 hK22 => ?_)
      refine still_does H rfl (does_move rfl) ?_; clear H a; intro a H
      refine still_does H rfl (does_move rfl) ?_; clear H a; intro a H
      refine still_does H rfl (does_len sl_63 rfl) ?_; clear H a; intro a H
      refine still_does H rfl (does_assign rfl) ?_; clear H a; intro a H
      refine still_does H rfl (does_assign rfl) ?_; clear H a; intro a H
      refine wpStill_nil (hK22 _ ?_)
      clear hK22 K22
      refine wp_ret ?_
      refine ret2 (fn := Try.f74) rfl H rfl rfl ?_
      have hk9 : k = l.length := by omega
      subst hk9
      exact ⟨_, A', c', ⟨Nat.le_refl _, hp.2.2, fun h => absurd h (Nat.lt_irrefl _)⟩, rfl, (S.sel [1] rfl rfl)⟩

end Go.Proofs.Ytlejjfhgfajoiaa
