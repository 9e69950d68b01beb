/- ChPb. Printed by gen.py. -/
import Derived.Test.YtlejjfhgfajoiaaChPa
namespace Go.Proofs.Ytlejjfhgfajoiaa
open Go.RowKit
set_option linter.unusedVariables false
set_option linter.unusedSimpArgs false


theorem or3 (a b c : Bool) : ((a || b) || c) = ((b || c) || a) := by cases a <;> cases b <;> cases c <;> rfl


set_option maxRecDepth 100000 in
set_option maxHeartbeats 1000000 in
theorem ref_Wear (rates : List (Int × Int)) (pwn ptn pag : Int) (RA : Option Addr) (rcp : Nat) (l : List Use) (A : Option Addr) (cp : Nat) (w : World) (hr : InS w noF 2 RA rates.length (scell rates)) (hrn : rates.length ≤ 9223372036854775807) (hl : InS w noF 6 A l.length (ucell l)) (hn : l.length ≤ 9223372036854775807) :
    Calls Try.prog 43 [.agg [.slice RA rates.length rcp, .int .i64 pwn, .int .i64 ptn, .int .i64 pag].toArray, .slice A l.length cp].toArray w (Ret (WearR w (⟨rates, pwn, ptn, pag⟩ : Part) l)) := by
  refine enter Try.func43 rfl Try.ntmps43 rfl (fun a H => ?_)
  have S := St.start w
  refine seq_list (fun K1 hK1 => ?_)
  refine list_box H rfl S rfl rfl ?_; clear H a S; intro b2 _ a hb2 hbw2 S H
  refine list_does H rfl (does_assign rfl) ?_; clear H a; intro a H
  refine list_does H rfl (does_assign rfl) ?_; clear H a; intro a H
  refine hK1 _ _ ?_
  clear hK1 K1
  replace H := H.keep [1, 2] rfl
  refine seq_list (fun K2 hK2 => ?_)
  refine list_does H rfl (by first | exact does_loadBox agg_62 sz_62 rfl S (i := 0) rfl rfl) ?_; clear H a; intro a H
  refine list_does H rfl (does_move rfl) ?_; clear H a; intro a H
  refine list_call H rfl rfl Try.func36 rfl rfl (ref_CheckPart rates pwn ptn pag RA rcp l A cp _ (hr.now S) hrn (hl.now S) hn) ?_; clear H a
  rintro _ _ a ⟨rfl, S2⟩ H
  replace S := S.call S2; clear S2
  refine list_does H rfl (does_assign rfl) ?_; clear H a; intro a H
  refine hK2 _ _ ?_
  clear hK2 K2
  refine wp_seq_k (fun K3 hK3 => ?_)
  replace H := H.keep [1, 2, 6] rfl
  refine seq_still (fun K4 hK4 => ?_)
  refine still_does H rfl (does_move rfl) ?_; clear H a; intro a H
  refine still_does H rfl (does_neq rfl rfl) ?_; clear H a; intro a H
  refine wpStill_nil (hK4 _ ?_)
  clear hK4 K4
  refine cond_ H rfl (fun hc1 => ?_) (fun hc1 => ?_)
  · try simp only [Bool.or_eq_true, Bool.and_eq_true, Bool.not_eq_true', Bool.or_eq_false_iff, Bool.and_eq_false_iff, Bool.not_eq_false', decide_eq_true_eq, decide_eq_false_iff_not, Int.not_lt, Int.not_le] at hc1
    replace H := H.keep [6] rfl
    refine seq_still (fun K5 hK5 => ?_)
    refine still_does H rfl (does_move rfl) ?_; clear H a; intro a H
    refine still_does H rfl (does_assign rfl) ?_; clear H a; intro a H
    refine still_does H rfl (does_assign rfl) ?_; clear H a; intro a H
    refine wpStill_nil (hK5 _ ?_)
    clear hK5 K5
    refine wp_ret ?_
    refine ret2 (fn := Try.f43) rfl H rfl rfl ?_
    have e9 := wearE_bad (p := (⟨rates, pwn, ptn, pag⟩ : Part)) (l := l) (by omega)
    exact .inr ⟨by omega, by rw [e9], (S.sel [] rfl rfl)⟩
  · try simp only [Bool.or_eq_true, Bool.and_eq_true, Bool.not_eq_true', Bool.or_eq_false_iff, Bool.and_eq_false_iff, Bool.not_eq_false', decide_eq_true_eq, decide_eq_false_iff_not, Int.not_lt, Int.not_le] at hc1
    refine wp_skip ?_
    refine hK3 _ _ ?_
    have h0 : checkP (⟨rates, pwn, ptn, pag⟩ : Part) l = 0 := by omega
    have hok := checkP_ok h0
    by_cases hA : wearE (⟨rates, pwn, ptn, pag⟩ : Part) l = 0
    · skip
      replace H := H.keep [1, 2] rfl
      refine seq_list (fun K6 hK6 => ?_)
      refine list_does H rfl (by first | exact does_loadBox agg_62 sz_62 rfl S (i := 0) rfl rfl) ?_; clear H a; intro a H
      refine list_does H rfl (does_move rfl) ?_; clear H a; intro a H
      refine list_call H rfl rfl Try.func73 rfl rfl (ret_imp (ref_wear rates pwn ptn pag RA rcp l A cp _ (hr.now S) hrn (hl.now S) hn hok h0) (fun _ _ => wearR_yes hA)) ?_; clear H a
      rintro _ _ a ⟨A', c', rfl, S2⟩ H
      replace S := S.call S2; clear S2
      refine list_does H rfl (does_extract rfl rfl) ?_; clear H a; intro a H
      refine list_does H rfl (does_extract rfl rfl) ?_; clear H a; intro a H
      refine list_does H rfl (does_assign rfl) ?_; clear H a; intro a H
      refine list_does H rfl (does_assign rfl) ?_; clear H a; intro a H
      refine hK6 _ _ ?_
      clear hK6 K6
      refine wp_ret ?_
      refine ret2 (fn := Try.f43) rfl H rfl rfl ?_
      exact .inl ⟨hA, A', c', rfl, (S.sel [0] rfl rfl)⟩
    · skip
      replace H := H.keep [1, 2] rfl
      refine seq_list (fun K7 hK7 => ?_)
      refine list_does H rfl (by first | exact does_loadBox agg_62 sz_62 rfl S (i := 0) rfl rfl) ?_; clear H a; intro a H
      refine list_does H rfl (does_move rfl) ?_; clear H a; intro a H
      refine list_call H rfl rfl Try.func73 rfl rfl (ret_imp (ref_wear rates pwn ptn pag RA rcp l A cp _ (hr.now S) hrn (hl.now S) hn hok h0) (fun _ _ => wearR_no hA)) ?_; clear H a
      rintro _ _ a ⟨rfl, S2⟩ H
      replace S := S.call S2; clear S2
      refine list_does H rfl (does_extract rfl rfl) ?_; clear H a; intro a H
      refine list_does H rfl (does_extract rfl rfl) ?_; clear H a; intro a H
      refine list_does H rfl (does_assign rfl) ?_; clear H a; intro a H
      refine list_does H rfl (does_assign rfl) ?_; clear H a; intro a H
      refine hK7 _ _ ?_
      clear hK7 K7
      refine wp_ret ?_
      refine ret2 (fn := Try.f43) rfl H rfl rfl ?_
      exact .inr ⟨hA, rfl, (S.sel [] rfl rfl)⟩

set_option maxRecDepth 100000 in
set_option maxHeartbeats 1000000 in
theorem chain_Wear (rates : List (Int × Int)) (pwn ptn pag : Int) (RA : Option Addr) (rcp : Nat) (l : List Use) (A : Option Addr) (cp : Nat) (w : World) (hr : InS w noF 2 RA rates.length (scell rates)) (hrn : rates.length ≤ 9223372036854775807) (hl : InS w noF 6 A l.length (ucell l)) (hn : l.length ≤ 9223372036854775807) :
    Calls Try.prog 37 [.agg [.slice RA rates.length rcp, .int .i64 pwn, .int .i64 ptn, .int .i64 pag].toArray, .slice A l.length cp].toArray w (Ret (WearR w (⟨rates, pwn, ptn, pag⟩ : Part) l)) := by
  refine enter Try.func37 rfl Try.ntmps37 rfl (fun a H => ?_)
  have S := St.start w
  refine seq_list (fun K1 hK1 => ?_)
  refine list_box H rfl S rfl rfl ?_; clear H a S; intro b2 _ a hb2 hbw2 S H
  refine list_does H rfl (does_assign rfl) ?_; clear H a; intro a H
  refine list_does H rfl (does_assign rfl) ?_; clear H a; intro a H
  refine hK1 _ _ ?_
  clear hK1 K1
  refine wp_seq_k (fun K2 hK2 => ?_)
  replace H := H.keep [1, 2] rfl
  refine seq_list (fun K3 hK3 => ?_)
  refine list_does H rfl (by first | exact does_loadBox agg_62 sz_62 rfl S (i := 0) rfl rfl) ?_; clear H a; intro a H
  refine list_does H rfl (does_move rfl) ?_; clear H a; intro a H
  refine list_call H rfl rfl Try.func42 rfl rfl (chain_CheckPart rates pwn ptn pag RA rcp l A cp _ (hr.now S) hrn (hl.now S) hn) ?_; clear H a
  rintro _ _ a ⟨rfl, S2⟩ H
  replace S := S.call S2; clear S2
  refine list_does H rfl (does_assign rfl) ?_; clear H a; intro a H
  refine hK3 _ _ ?_
  clear hK3 K3
  replace H := H.keep [1, 2, 6] rfl
  refine seq_still (fun K4 hK4 => ?_)
  refine still_does H rfl (does_move rfl) ?_; clear H a; intro a H
  refine still_does H rfl (does_neq rfl rfl) ?_; clear H a; intro a H
  refine wpStill_nil (hK4 _ ?_)
  clear hK4 K4
  refine cond_ H rfl (fun hc1 => ?_) (fun hc1 => ?_)
  · try simp only [Bool.or_eq_true, Bool.and_eq_true, Bool.not_eq_true', Bool.or_eq_false_iff, Bool.and_eq_false_iff, Bool.not_eq_false', decide_eq_true_eq, decide_eq_false_iff_not, Int.not_lt, Int.not_le] at hc1
    replace H := H.keep [6] rfl
    refine seq_still (fun K5 hK5 => ?_)
    refine still_does H rfl (does_move rfl) ?_; clear H a; intro a H
    refine still_does H rfl (does_assign rfl) ?_; clear H a; intro a H
    refine still_does H rfl (does_assign rfl) ?_; clear H a; intro a H
    refine wpStill_nil (hK5 _ ?_)
    clear hK5 K5
    refine wp_ret ?_
    refine ret2 (fn := Try.f37) rfl H rfl rfl ?_
    have e9 := wearE_bad (p := (⟨rates, pwn, ptn, pag⟩ : Part)) (l := l) (by omega)
    exact .inr ⟨by omega, by rw [e9], (S.sel [] rfl rfl)⟩
  · try simp only [Bool.or_eq_true, Bool.and_eq_true, Bool.not_eq_true', Bool.or_eq_false_iff, Bool.and_eq_false_iff, Bool.not_eq_false', decide_eq_true_eq, decide_eq_false_iff_not, Int.not_lt, Int.not_le] at hc1
    refine wp_skip ?_
    refine hK2 _ _ ?_
    have h0 : checkP (⟨rates, pwn, ptn, pag⟩ : Part) l = 0 := by omega
    have hok := checkP_ok h0
    by_cases hA : IsAt (⟨rates, pwn, ptn, pag⟩ : Part) l l.length
    · skip
      replace H := H.keep [1, 2] rfl
      refine seq_list (fun K6 hK6 => ?_)
      refine list_does H rfl (by first | exact does_loadBox agg_62 sz_62 rfl S (i := 0) rfl rfl) ?_; clear H a; intro a H
      refine list_does H rfl (does_move rfl) ?_; clear H a; intro a H
      refine list_call H rfl rfl Try.func70 rfl rfl (ret_imp (chain_worn rates pwn ptn pag RA rcp l A cp _ (hr.now S) hrn (hl.now S) hn hok) (fun _ _ => worn_yes hA)) ?_; clear H a
      rintro _ _ a ⟨A', c', rfl, S2⟩ H
      replace S := S.call S2; clear S2
      refine list_does H rfl (does_move rfl) ?_; clear H a; intro a H
      refine list_does H rfl (does_extract rfl rfl) ?_; clear H a; intro a H
      refine list_does H rfl (does_extract rfl rfl) ?_; clear H a; intro a H
      refine list_does H rfl (does_assign rfl) ?_; clear H a; intro a H
      refine list_does H rfl (does_assign rfl) ?_; clear H a; intro a H
      refine hK6 _ _ ?_
      clear hK6 K6
      refine wp_seq_k (fun K7 hK7 => ?_)
      replace H := H.keep [7, 8] rfl
      refine seq_still (fun K8 hK8 => ?_)
      refine still_does H rfl (does_move rfl) ?_; clear H a; intro a H
      refine still_does H rfl (does_not rfl) ?_; clear H a; intro a H
      refine wpStill_nil (hK8 _ ?_)
      clear hK8 K8
      refine cond_ H rfl (fun hc2 => ?_) (fun hc2 => ?_)
      · skip
        cases hc2
      · skip
        refine wp_skip ?_
        refine hK7 _ _ ?_
        replace H := H.keep [7] rfl
        refine seq_still (fun K9 hK9 => ?_)
        refine still_does H rfl (does_move rfl) ?_; clear H a; intro a H
        refine still_does H rfl (does_assign rfl) ?_; clear H a; intro a H
        refine still_does H rfl (does_assign rfl) ?_; clear H a; intro a H
        refine wpStill_nil (hK9 _ ?_)
        clear hK9 K9
        refine wp_ret ?_
        refine ret2 (fn := Try.f37) rfl H rfl rfl ?_
        exact .inl ⟨wearE_ok h0 hA, A', c', rfl, (S.sel [0] rfl rfl)⟩
    · skip
      replace H := H.keep [1, 2] rfl
      refine seq_list (fun K10 hK10 => ?_)
      refine list_does H rfl (by first | exact does_loadBox agg_62 sz_62 rfl S (i := 0) rfl rfl) ?_; clear H a; intro a H
      refine list_does H rfl (does_move rfl) ?_; clear H a; intro a H
      refine list_call H rfl rfl Try.func70 rfl rfl (ret_imp (chain_worn rates pwn ptn pag RA rcp l A cp _ (hr.now S) hrn (hl.now S) hn hok) (fun _ _ => worn_no hA)) ?_; clear H a
      rintro _ _ a ⟨rfl, S2⟩ H
      replace S := S.call S2; clear S2
      refine list_does H rfl (does_move rfl) ?_; clear H a; intro a H
      refine list_does H rfl (does_extract rfl rfl) ?_; clear H a; intro a H
      refine list_does H rfl (does_extract rfl rfl) ?_; clear H a; intro a H
      refine list_does H rfl (does_assign rfl) ?_; clear H a; intro a H
      refine list_does H rfl (does_assign rfl) ?_; clear H a; intro a H
      refine hK10 _ _ ?_
      clear hK10 K10
      refine wp_seq_k (fun K11 hK11 => ?_)
      replace H := H.keep [7, 8] rfl
      refine seq_still (fun K12 hK12 => ?_)
      refine still_does H rfl (does_move rfl) ?_; clear H a; intro a H
      refine still_does H rfl (does_not rfl) ?_; clear H a; intro a H
      refine wpStill_nil (hK12 _ ?_)
      clear hK12 K12
      refine cond_ H rfl (fun hc3 => ?_) (fun hc3 => ?_)
      · skip
        replace H := H.keep [] rfl
        refine seq_still (fun K13 hK13 => ?_)
        refine still_does H rfl (does_assign rfl) ?_; clear H a; intro a H
        refine still_does H rfl (does_assign rfl) ?_; clear H a; intro a H
        refine wpStill_nil (hK13 _ ?_)
        clear hK13 K13
        refine wp_ret ?_
        refine ret2 (fn := Try.f37) rfl H rfl rfl ?_
        have e9 := wearE_none h0 hA
        exact .inr ⟨by omega, by rw [e9], (S.sel [] rfl rfl)⟩
      · skip
        cases hc3

set_option maxRecDepth 100000 in
set_option maxHeartbeats 1000000 in
theorem ref_Refuted (rates : List (Int × Int)) (pwn ptn pag : Int) (RA : Option Addr) (rcp : Nat) (l : List Use) (A : Option Addr) (cp : Nat) (w : World) (hr : InS w noF 2 RA rates.length (scell rates)) (hrn : rates.length ≤ 9223372036854775807) (hl : InS w noF 6 A l.length (ucell l)) (hn : l.length ≤ 9223372036854775807) :
    Calls Try.prog 45 [.agg [.slice RA rates.length rcp, .int .i64 pwn, .int .i64 ptn, .int .i64 pag].toArray, .slice A l.length cp].toArray w (Ret (fun v w' => v = .tuple #[.int .i64 (refO (⟨rates, pwn, ptn, pag⟩ : Part) l).1, .bool (refO (⟨rates, pwn, ptn, pag⟩ : Part) l).2.1, .int .i64 (refO (⟨rates, pwn, ptn, pag⟩ : Part) l).2.2] ∧ St w noF [] w')) := by
  refine enter Try.func45 rfl Try.ntmps45 rfl (fun a H => ?_)
  have S := St.start w
  refine seq_list (fun K1 hK1 => ?_)
  refine list_box H rfl S rfl rfl ?_; clear H a S; intro b2 _ a hb2 hbw2 S H
  refine list_does H rfl (does_assign rfl) ?_; clear H a; intro a H
  refine list_does H rfl (does_assign rfl) ?_; clear H a; intro a H
  refine list_does H rfl (does_assign rfl) ?_; clear H a; intro a H
  refine hK1 _ _ ?_
  clear hK1 K1
  replace H := H.keep [1, 2] rfl
  refine seq_list (fun K2 hK2 => ?_)
  refine list_does H rfl (by first | exact does_loadBox agg_62 sz_62 rfl S (i := 0) rfl rfl) ?_; clear H a; intro a H
  refine list_does H rfl (does_move rfl) ?_; clear H a; intro a H
  refine list_call H rfl rfl Try.func36 rfl rfl (ref_CheckPart rates pwn ptn pag RA rcp l A cp _ (hr.now S) hrn (hl.now S) hn) ?_; clear H a
  rintro _ _ a ⟨rfl, S2⟩ H
  replace S := S.call S2; clear S2
  refine list_does H rfl (does_assign rfl) ?_; clear H a; intro a H
  refine hK2 _ _ ?_
  clear hK2 K2
  refine wp_seq_k (fun K3 hK3 => ?_)
  replace H := H.keep [1, 2, 7] rfl
  refine seq_still (fun K4 hK4 => ?_)
  refine still_does H rfl (does_move rfl) ?_; clear H a; intro a H
  refine still_does H rfl (does_neq rfl rfl) ?_; clear H a; intro a H
  refine wpStill_nil (hK4 _ ?_)
  clear hK4 K4
  refine cond_ H rfl (fun hc1 => ?_) (fun hc1 => ?_)
  · try simp only [Bool.or_eq_true, Bool.and_eq_true, Bool.not_eq_true', Bool.or_eq_false_iff, Bool.and_eq_false_iff, Bool.not_eq_false', decide_eq_true_eq, decide_eq_false_iff_not, Int.not_lt, Int.not_le] at hc1
    replace H := H.keep [7] rfl
    refine seq_still (fun K5 hK5 => ?_)
    refine still_does H rfl (does_move rfl) ?_; clear H a; intro a H
    refine still_does H rfl (does_assign rfl) ?_; clear H a; intro a H
    refine still_does H rfl (does_assign rfl) ?_; clear H a; intro a H
    refine still_does H rfl (does_assign rfl) ?_; clear H a; intro a H
    refine wpStill_nil (hK5 _ ?_)
    clear hK5 K5
    refine wp_ret ?_
    refine ret3 (fn := Try.f45) rfl H rfl rfl rfl ?_
    unfold refO; rw [if_pos (by omega)]; exact ⟨rfl, (S.sel [] rfl rfl)⟩
  · try simp only [Bool.or_eq_true, Bool.and_eq_true, Bool.not_eq_true', Bool.or_eq_false_iff, Bool.and_eq_false_iff, Bool.not_eq_false', decide_eq_true_eq, decide_eq_false_iff_not, Int.not_lt, Int.not_le] at hc1
    refine wp_skip ?_
    refine hK3 _ _ ?_
    have h0 : checkP (⟨rates, pwn, ptn, pag⟩ : Part) l = 0 := by omega
    have hok := checkP_ok h0
    rcases (show atN (⟨rates, pwn, ptn, pag⟩ : Part) l = l.length ∨ atN (⟨rates, pwn, ptn, pag⟩ : Part) l < l.length from by have := (atN_is (⟨rates, pwn, ptn, pag⟩ : Part) l).le; omega) with hA | hA
    · skip
      replace H := H.keep [1, 2] rfl
      refine seq_list (fun K6 hK6 => ?_)
      refine list_does H rfl (by first | exact does_loadBox agg_62 sz_62 rfl S (i := 0) rfl rfl) ?_; clear H a; intro a H
      refine list_does H rfl (does_move rfl) ?_; clear H a; intro a H
      refine list_call H rfl rfl Try.func75 rfl rfl (ret_imp (ref_forward rates pwn ptn pag RA rcp l A cp _ (hr.now S) hrn (hl.now S) hn hok) (fun _ _ => fwdR_yes hA)) ?_; clear H a
      rintro _ _ a ⟨A', c', rfl, S2⟩ H
      replace S := S.call S2; clear S2
      refine list_does H rfl (does_move rfl) ?_; clear H a; intro a H
      refine list_does H rfl (does_extract rfl rfl) ?_; clear H a; intro a H
      refine list_does H rfl (does_extract rfl rfl) ?_; clear H a; intro a H
      refine list_does H rfl (does_assign rfl) ?_; clear H a; intro a H
      refine list_does H rfl (does_assign rfl) ?_; clear H a; intro a H
      refine hK6 _ _ ?_
      clear hK6 K6
      replace H := H.keep [9] rfl
      refine seq_still (fun K7 hK7 => ?_)
      refine still_does H rfl (does_move rfl) ?_; clear H a; intro a H
      refine still_does H rfl (does_max rfl rfl) ?_; clear H a; intro a H
      refine still_does H rfl (does_move rfl) ?_; clear H a; intro a H
      refine still_does H rfl (does_geq rfl rfl) ?_; clear H a; intro a H
      refine still_does H rfl (does_assign rfl) ?_; clear H a; intro a H
      refine still_does H rfl (does_assign rfl) ?_; clear H a; intro a H
      refine still_does H rfl (does_assign rfl) ?_; clear H a; intro a H
      refine wpStill_nil (hK7 _ ?_)
      clear hK7 K7
      refine wp_ret ?_
      refine ret3 (fn := Try.f45) rfl H rfl rfl rfl ?_
      unfold refO; rw [if_neg (by omega), if_neg (by omega)]; exact ⟨rfl, (S.sel [] rfl rfl)⟩
    · skip
      replace H := H.keep [1, 2] rfl
      refine seq_list (fun K8 hK8 => ?_)
      refine list_does H rfl (by first | exact does_loadBox agg_62 sz_62 rfl S (i := 0) rfl rfl) ?_; clear H a; intro a H
      refine list_does H rfl (does_move rfl) ?_; clear H a; intro a H
      refine list_call H rfl rfl Try.func75 rfl rfl (ret_imp (ref_forward rates pwn ptn pag RA rcp l A cp _ (hr.now S) hrn (hl.now S) hn hok) (fun _ _ => fwdR_no hA)) ?_; clear H a
      rintro _ _ a ⟨rfl, S2⟩ H
      replace S := S.call S2; clear S2
      refine list_does H rfl (does_move rfl) ?_; clear H a; intro a H
      refine list_does H rfl (does_extract rfl rfl) ?_; clear H a; intro a H
      refine list_does H rfl (does_extract rfl rfl) ?_; clear H a; intro a H
      refine list_does H rfl (does_assign rfl) ?_; clear H a; intro a H
      refine list_does H rfl (does_assign rfl) ?_; clear H a; intro a H
      refine hK8 _ _ ?_
      clear hK8 K8
      replace H := H.keep [9] rfl
      refine seq_still (fun K9 hK9 => ?_)
      refine still_does H rfl (does_move rfl) ?_; clear H a; intro a H
      refine still_does H rfl (does_max rfl rfl) ?_; clear H a; intro a H
      refine still_does H rfl (does_move rfl) ?_; clear H a; intro a H
      refine still_does H rfl (does_geq rfl rfl) ?_; clear H a; intro a H
      refine still_does H rfl (does_assign rfl) ?_; clear H a; intro a H
      refine still_does H rfl (does_assign rfl) ?_; clear H a; intro a H
      refine still_does H rfl (does_assign rfl) ?_; clear H a; intro a H
      refine wpStill_nil (hK9 _ ?_)
      clear hK9 K9
      refine wp_ret ?_
      refine ret3 (fn := Try.f45) rfl H rfl rfl rfl ?_
      unfold refO; rw [if_neg (by omega), if_pos hA]; refine ⟨?_, (S.sel [] rfl rfl)⟩
      have e1 : max 0 ((atN (⟨rates, pwn, ptn, pag⟩ : Part) l : Nat) : Int) = atN (⟨rates, pwn, ptn, pag⟩ : Part) l := by omega
      rw [e1]; rw [decide_eq_true (show (0 : Int) ≤ (atN (⟨rates, pwn, ptn, pag⟩ : Part) l : Int) by omega)]

set_option maxRecDepth 100000 in
set_option maxHeartbeats 1000000 in
theorem chain_Refuted (rates : List (Int × Int)) (pwn ptn pag : Int) (RA : Option Addr) (rcp : Nat) (l : List Use) (A : Option Addr) (cp : Nat) (w : World) (hr : InS w noF 2 RA rates.length (scell rates)) (hrn : rates.length ≤ 9223372036854775807) (hl : InS w noF 6 A l.length (ucell l)) (hn : l.length ≤ 9223372036854775807) :
    Calls Try.prog 44 [.agg [.slice RA rates.length rcp, .int .i64 pwn, .int .i64 ptn, .int .i64 pag].toArray, .slice A l.length cp].toArray w (Ret (fun v w' => v = .tuple #[.int .i64 (refO (⟨rates, pwn, ptn, pag⟩ : Part) l).1, .bool (refO (⟨rates, pwn, ptn, pag⟩ : Part) l).2.1, .int .i64 (refO (⟨rates, pwn, ptn, pag⟩ : Part) l).2.2] ∧ St w noF [] w')) := by
  refine enter Try.func44 rfl Try.ntmps44 rfl (fun a H => ?_)
  have S := St.start w
  refine seq_list (fun K1 hK1 => ?_)
  refine list_box H rfl S rfl rfl ?_; clear H a S; intro b2 _ a hb2 hbw2 S H
  refine list_does H rfl (does_assign rfl) ?_; clear H a; intro a H
  refine list_does H rfl (does_assign rfl) ?_; clear H a; intro a H
  refine list_does H rfl (does_assign rfl) ?_; clear H a; intro a H
  refine hK1 _ _ ?_
  clear hK1 K1
  refine wp_seq_k (fun K2 hK2 => ?_)
  replace H := H.keep [1, 2] rfl
  refine seq_list (fun K3 hK3 => ?_)
  refine list_does H rfl (by first | exact does_loadBox agg_62 sz_62 rfl S (i := 0) rfl rfl) ?_; clear H a; intro a H
  refine list_does H rfl (does_move rfl) ?_; clear H a; intro a H
  refine list_call H rfl rfl Try.func42 rfl rfl (chain_CheckPart rates pwn ptn pag RA rcp l A cp _ (hr.now S) hrn (hl.now S) hn) ?_; clear H a
  rintro _ _ a ⟨rfl, S2⟩ H
  replace S := S.call S2; clear S2
  refine list_does H rfl (does_assign rfl) ?_; clear H a; intro a H
  refine hK3 _ _ ?_
  clear hK3 K3
  replace H := H.keep [1, 2, 6] rfl
  refine seq_still (fun K4 hK4 => ?_)
  refine still_does H rfl (does_move rfl) ?_; clear H a; intro a H
  refine still_does H rfl (does_neq rfl rfl) ?_; clear H a; intro a H
  refine wpStill_nil (hK4 _ ?_)
  clear hK4 K4
  refine cond_ H rfl (fun hc1 => ?_) (fun hc1 => ?_)
  · try simp only [Bool.or_eq_true, Bool.and_eq_true, Bool.not_eq_true', Bool.or_eq_false_iff, Bool.and_eq_false_iff, Bool.not_eq_false', decide_eq_true_eq, decide_eq_false_iff_not, Int.not_lt, Int.not_le] at hc1
    replace H := H.keep [6] rfl
    refine seq_still (fun K5 hK5 => ?_)
    refine still_does H rfl (does_move rfl) ?_; clear H a; intro a H
    refine still_does H rfl (does_assign rfl) ?_; clear H a; intro a H
    refine still_does H rfl (does_assign rfl) ?_; clear H a; intro a H
    refine still_does H rfl (does_assign rfl) ?_; clear H a; intro a H
    refine wpStill_nil (hK5 _ ?_)
    clear hK5 K5
    refine wp_ret ?_
    refine ret3 (fn := Try.f44) rfl H rfl rfl rfl ?_
    unfold refO; rw [if_pos (by omega)]; exact ⟨rfl, (S.sel [] rfl rfl)⟩
  · try simp only [Bool.or_eq_true, Bool.and_eq_true, Bool.not_eq_true', Bool.or_eq_false_iff, Bool.and_eq_false_iff, Bool.not_eq_false', decide_eq_true_eq, decide_eq_false_iff_not, Int.not_lt, Int.not_le] at hc1
    refine wp_skip ?_
    refine hK2 _ _ ?_
    refine wp_seq_k (fun K6 hK6 => ?_)
    have h0 : checkP (⟨rates, pwn, ptn, pag⟩ : Part) l = 0 := by omega
    have hok := checkP_ok h0
    replace H := H.keep [1, 2] rfl
    refine seq_list (fun K7 hK7 => ?_)
    refine list_does H rfl (by first | exact does_loadBox agg_62 sz_62 rfl S (i := 0) rfl rfl) ?_; clear H a; intro a H
    refine list_does H rfl (does_move rfl) ?_; clear H a; intro a H
    refine list_call H rfl rfl Try.func74 rfl rfl (chain_forth rates pwn ptn pag RA rcp l A cp _ (hr.now S) hrn (hl.now S) hn hok) ?_; clear H a
    rintro _ _ a ⟨n, A', c', hn1, rfl, S2⟩ H
    replace S := S.call S2; clear S2
    have e9 := atN_eq hn1; have hnl := hn1.le
    refine list_does H rfl (does_move rfl) ?_; clear H a; intro a H
    refine list_does H rfl (does_extract rfl rfl) ?_; clear H a; intro a H
    refine list_does H rfl (does_extract rfl rfl) ?_; clear H a; intro a H
    refine list_does H rfl (does_assign rfl) ?_; clear H a; intro a H
    refine list_does H rfl (does_assign rfl) ?_; clear H a; intro a H
    refine hK7 _ _ ?_
    clear hK7 K7
    replace H := H.keep [1, 8] rfl
    refine seq_still (fun K8 hK8 => ?_)
    refine still_does H rfl (does_move rfl) ?_; clear H a; intro a H
    refine still_does H rfl (does_move rfl) ?_; clear H a; intro a H
    refine still_does H rfl (does_len sl_63 rfl) ?_; clear H a; intro a H
    refine still_does H rfl (does_lss rfl rfl) ?_; clear H a; intro a H
    refine wpStill_nil (hK8 _ ?_)
    clear hK8 K8
    refine cond_ H rfl (fun hc2 => ?_) (fun hc2 => ?_)
    · try simp only [Bool.or_eq_true, Bool.and_eq_true, Bool.not_eq_true', Bool.or_eq_false_iff, Bool.and_eq_false_iff, Bool.not_eq_false', decide_eq_true_eq, decide_eq_false_iff_not, Int.not_lt, Int.not_le] at hc2
      replace H := H.keep [8] rfl
      refine seq_still (fun K9 hK9 => ?_)
      refine still_does H rfl (does_move rfl) ?_; clear H a; intro a H
      refine still_does H rfl (does_assign rfl) ?_; clear H a; intro a H
      refine still_does H rfl (does_assign rfl) ?_; clear H a; intro a H
      refine still_does H rfl (does_assign rfl) ?_; clear H a; intro a H
      refine wpStill_nil (hK9 _ ?_)
      clear hK9 K9
      refine wp_ret ?_
      refine ret3 (fn := Try.f44) rfl H rfl rfl rfl ?_
      unfold refO; rw [if_neg (by omega), if_pos (by omega), e9]; exact ⟨rfl, (S.sel [] rfl rfl)⟩
    · try simp only [Bool.or_eq_true, Bool.and_eq_true, Bool.not_eq_true', Bool.or_eq_false_iff, Bool.and_eq_false_iff, Bool.not_eq_false', decide_eq_true_eq, decide_eq_false_iff_not, Int.not_lt, Int.not_le] at hc2
      refine wp_skip ?_
      refine hK6 _ _ ?_
      replace H := H.keep [] rfl
      refine seq_still (fun K10 hK10 => ?_)
      refine still_does H rfl (does_assign rfl) ?_; clear H a; intro a H
      refine still_does H rfl (does_assign rfl) ?_; clear H a; intro a H
      refine still_does H rfl (does_assign rfl) ?_; clear H a; intro a H
      refine wpStill_nil (hK10 _ ?_)
      clear hK10 K10
      refine wp_ret ?_
      refine ret3 (fn := Try.f44) rfl H rfl rfl rfl ?_
      unfold refO; rw [if_neg (by omega), if_neg (by omega)]; exact ⟨rfl, (S.sel [] rfl rfl)⟩

set_option maxRecDepth 100000 in
set_option maxHeartbeats 1000000 in
theorem ref_Worn (rates : List (Int × Int)) (pwn ptn pag : Int) (RA : Option Addr) (rcp : Nat) (l : List Use) (A : Option Addr) (cp : Nat) (w : World) (hr : InS w noF 2 RA rates.length (scell rates)) (hrn : rates.length ≤ 9223372036854775807) (hl : InS w noF 6 A l.length (ucell l)) (hn : l.length ≤ 9223372036854775807) (hok : PartOk (⟨rates, pwn, ptn, pag⟩ : Part) l) (k : Nat) (wr : Int) (hk : k < l.length) :
    Calls Try.prog 50 [.agg [.slice RA rates.length rcp, .int .i64 pwn, .int .i64 ptn, .int .i64 pag].toArray, .slice A l.length cp, .int .i64 (k : Int), .int .i64 wr].toArray w (Ret (fun v w' => v = .bool (wornB (⟨rates, pwn, ptn, pag⟩ : Part) l k wr) ∧ St w noF [] w')) := by
  have hh := hok.hdr; unfold partHdr at hh; simp only [decide_eq_true_eq] at hh; have hll := hok.len
  refine enter Try.func50 rfl Try.ntmps50 rfl (fun a H => ?_)
  have S := St.start w
  refine seq_list (fun K1 hK1 => ?_)
  refine list_box H rfl S rfl rfl ?_; clear H a S; intro b4 _ a hb4 hbw4 S H
  refine list_does H rfl (does_assign rfl) ?_; clear H a; intro a H
  refine hK1 _ _ ?_
  clear hK1 K1
  replace H := H.keep [1, 2, 3, 4] rfl
  refine seq_still (fun K2 hK2 => ?_)
  refine still_does H rfl (does_assign rfl) ?_; clear H a; intro a H
  refine wpStill_nil (hK2 _ ?_)
  clear hK2 K2
  refine wp_seq_k (fun K3 hK3 => ?_)
  replace H := H.keep [1, 2, 3, 4, 9] rfl
  refine seq_still (fun K4 hK4 => ?_)
  refine still_does H rfl (does_assign rfl) ?_; clear H a; intro a H
  refine wpStill_nil (hK4 _ ?_)
  clear hK4 K4
  refine wp_block ?_
  refine loop_st (X := Nat) (R0 := _) [1, 2, 3, 4] H rfl (fun j => [(9, .int .i64 (sumT l j)), (10, .int .i64 (j : Int))]) (fun j => []) (fun g j => j ≤ k + 1 ∧ g + j = k + 1) (k + 1) 0 ?_ (S.sel [0] rfl rfl) (H.keep [9, 10, 1, 2, 3, 4] rfl) ?_
  · exact ⟨by omega, by omega⟩
  · intro g1 x1 a w1 hp S H K5 hK5
    obtain ⟨j, rfl⟩ : ∃ y, y = x1 := ⟨_, rfl⟩
    skip
    refine wp_seq_k (fun K6 hK6 => ?_)
    replace H := H.keep [1, 2, 3, 4, 9, 10] rfl
    refine seq_still (fun K7 hK7 => ?_)
    refine still_does H rfl (does_move rfl) ?_; clear H a; intro a H
    refine still_does H rfl (does_move rfl) ?_; clear H a; intro a H
    refine still_does H rfl (does_leq rfl rfl) ?_; clear H a; intro a H
    refine wpStill_nil (hK7 _ ?_)
    clear hK7 K7
    refine cond_ H rfl (fun hc1 => ?_) (fun hc1 => ?_)
    · try simp only [Bool.or_eq_true, Bool.and_eq_true, Bool.not_eq_true', Bool.or_eq_false_iff, Bool.and_eq_false_iff, Bool.not_eq_false', decide_eq_true_eq, decide_eq_false_iff_not, Int.not_lt, Int.not_le] at hc1
      refine wp_skip ?_
      refine hK6 _ _ ?_
      refine wp_seq_k (fun K8 hK8 => ?_)
      refine wp_block ?_
      have hsb := sumT_bd hok j (by omega)
      have hu := hok.use (k := j) (by omega); unfold useOk at hu; simp only [decide_eq_true_eq] at hu
      replace H := H.keep [1, 2, 3, 4, 9, 10] rfl
      refine one_still ?_
      refine still_does H rfl (does_move rfl) ?_; clear H a; intro a H
      refine still_does H rfl (does_move rfl) ?_; clear H a; intro a H
      refine still_does H rfl (does_move rfl) ?_; clear H a; intro a H
      refine still_does H rfl (by first | exact does_indexN sl_63 sz_70 rfl rfl (by first | exact hl.adr (by omega) | exact hr.adr (by omega)) (by first | omega | omega) | exact does_index sl_63 sz_70 rfl rfl (by first | exact hl.adr (by omega) | exact hr.adr (by omega)) (by omega) (by first | omega | omega)) ?_; clear H a; intro a H
      refine still_does H rfl (by first | exact does_field_pt fo_70_1 rfl | exact does_field fo_70_1 rfl) ?_; clear H a; intro a H
      refine still_does H rfl (does_load one_3 rfl (by first | exact hl.rd S (by omega) (by omega) | exact boxM.rd S (i := 0) rfl rfl)) ?_; clear H a; intro a H
      refine still_does H rfl (does_add rfl rfl (by unfold i64ok; omega)) ?_; clear H a; intro a H
      refine still_does H rfl (does_assign rfl) ?_; clear H a; intro a H
      refine wpStill_nil ?_
      refine hK8 _ _ ?_
      replace H := H.keep [1, 2, 3, 4, 9, 10] rfl
      refine one_still ?_
      refine still_does H rfl (does_move rfl) ?_; clear H a; intro a H
      refine still_does H rfl (does_add rfl rfl (by unfold i64ok; omega)) ?_; clear H a; intro a H
      refine still_does H rfl (does_assign rfl) ?_; clear H a; intro a H
      refine wpStill_nil ?_
      exact hK5 (g1 - 1) (j + 1) a _ (by omega) (by omega) (S.sel [0] rfl rfl) (H.keep [9, 10, 1, 2, 3, 4] rfl)
    · try simp only [Bool.or_eq_true, Bool.and_eq_true, Bool.not_eq_true', Bool.or_eq_false_iff, Bool.and_eq_false_iff, Bool.not_eq_false', decide_eq_true_eq, decide_eq_false_iff_not, Int.not_lt, Int.not_le] at hc1
      refine wp_exit ?_
      refine hK3 _ _ ?_
      replace H := H.keep [1, 2, 3, 4, 9] rfl
      refine seq_stillD (by kernel_rfl) (by kernel_rfl) (fun K11 hK11 => ?_)
      replace S := S.drew
      refine still_does H rfl (does_move rfl) ?_; clear H a; intro a H
      refine still_does H rfl (by first | exact does_field_pt fo_62_1 rfl | exact does_field fo_62_1 rfl) ?_; clear H a; intro a H
      refine still_does H rfl (does_load one_3 rfl (by first | exact hl.rd S (by omega) (by omega) | exact boxM.rd S (i := 0) rfl rfl)) ?_; clear H a; intro a H
      refine still_does H rfl (does_mul rfl rfl (by unfold i64ok; omega)) ?_; clear H a; intro a H
      refine still_does H rfl (does_gtr rfl rfl) ?_; clear H a; intro a H
      refine still_does H rfl (does_move rfl) ?_; clear H a; intro a H
      apply still_guard (i := 5) (g := 28) (t := 32) (b := false) 4 H rfl rfl (by kernel_rfl) (by kernel_rfl) rfl rfl
      case h1 =>
        intro hg6
        refine still_yes' H rfl rfl (by assumption) ?_
        refine still_does H rfl (does_move rfl) ?_; intro a H
        refine still_yes' H rfl rfl (by assumption) ?_
        refine still_does H rfl (by first | exact does_field_pt fo_62_2 rfl | exact does_field fo_62_2 rfl) ?_; intro a H
        refine still_yes' H rfl rfl (by assumption) ?_
        refine still_does H rfl (does_load one_3 rfl (by first | exact hl.rd S (by omega) (by omega) | exact boxM.rd S (i := 0) rfl rfl)) ?_; intro a H
        refine still_yes' H rfl rfl (by assumption) ?_
        refine still_does H rfl (does_gtr rfl rfl) ?_; intro a H
        exact wpStill_nil (H.strip 4 rfl rfl)
      case k =>
        clear H a; intro a H
        refine still_does H rfl (by first | exact does_or rfl rfl rfl | exact does_pick rfl rfl rfl) ?_; clear H a; intro a H
        refine still_does H rfl (does_move rfl) ?_; clear H a; intro a H
        apply still_guard (i := 11) (g := 34) (t := 42) (b := false) 8 H rfl rfl (by kernel_rfl) (by kernel_rfl) rfl rfl
        case h1 =>
          intro hg12
          refine still_yes' H rfl rfl (by assumption) ?_
          refine still_does H rfl (does_move rfl) ?_; intro a H
          refine still_yes' H rfl rfl (by assumption) ?_
          refine still_does H rfl (does_move rfl) ?_; intro a H
          refine still_yes' H rfl rfl (by assumption) ?_
          refine still_does H rfl (by first | exact does_indexN sl_63 sz_70 rfl rfl (by first | exact hl.adr (by omega) | exact hr.adr (by omega)) (by first | omega | omega) | exact does_index sl_63 sz_70 rfl rfl (by first | exact hl.adr (by omega) | exact hr.adr (by omega)) (by omega) (by first | omega | omega)) ?_; intro a H
          refine still_yes' H rfl rfl (by assumption) ?_
          refine still_does H rfl (by first | exact does_field_pt fo_70_0 rfl | exact does_field fo_70_0 rfl) ?_; intro a H
          refine still_yes' H rfl rfl (by assumption) ?_
          refine still_does H rfl (does_load one_3 rfl (by first | exact hl.rd S (by omega) (by omega) | exact boxM.rd S (i := 0) rfl rfl)) ?_; intro a H
          refine still_yes' H rfl rfl (by assumption) ?_
          refine still_does H rfl (by first | exact does_field_pt fo_62_3 rfl | exact does_field fo_62_3 rfl) ?_; intro a H
          refine still_yes' H rfl rfl (by assumption) ?_
          refine still_does H rfl (does_load one_3 rfl (by first | exact hl.rd S (by omega) (by omega) | exact boxM.rd S (i := 0) rfl rfl)) ?_; intro a H
          refine still_yes' H rfl rfl (by assumption) ?_
          refine still_does H rfl (does_gtr rfl rfl) ?_; intro a H
          exact wpStill_nil (H.strip 8 rfl rfl)
        case k =>
          clear H a; intro a H
          refine still_does H rfl (by first | exact does_or rfl rfl rfl | exact does_pick rfl rfl rfl) ?_; clear H a; intro a H
          refine still_does H rfl (does_assign rfl) ?_; clear H a; intro a H
          refine wpStill_nil (hK11 _ ?_)
          clear hK11 K11
          refine wp_ret ?_
          refine ret1 (fn := Try.f50) rfl H rfl ?_
          have hj9 : j = k + 1 := by omega
          subst hj9
          exact ⟨congrArg Value.bool (or3 _ _ _), (S.sel [] rfl rfl)⟩

set_option maxRecDepth 100000 in
set_option maxHeartbeats 1000000 in
theorem ref_beyond (rates : List (Int × Int)) (pwn ptn pag : Int) (RA : Option Addr) (rcp : Nat) (l : List Use) (A : Option Addr) (cp : Nat) (w : World) (hr : InS w noF 2 RA rates.length (scell rates)) (hrn : rates.length ≤ 9223372036854775807) (hl : InS w noF 6 A l.length (ucell l)) (hn : l.length ≤ 9223372036854775807) (hok : PartOk (⟨rates, pwn, ptn, pag⟩ : Part) l) (SA : Option Addr) (sc : Nat) (gb : Bool) (hs : InS w noF 2 SA l.length (fcell (wearAt (⟨rates, pwn, ptn, pag⟩ : Part) l))) :
    Calls Try.prog 76 [.agg [.slice RA rates.length rcp, .int .i64 pwn, .int .i64 ptn, .int .i64 pag].toArray, .slice A l.length cp, .slice SA l.length sc, .bool gb].toArray w (Ret (fun v w' => v = .int .i64 (firstO (fun k => wornB (⟨rates, pwn, ptn, pag⟩ : Part) l k (selE gb (wearAt (⟨rates, pwn, ptn, pag⟩ : Part) l k))) l.length) ∧ St w noF [] w')) := by
  refine enter Try.func76 rfl Try.ntmps76 rfl (fun a H => ?_)
  have S := St.start w
  refine seq_list (fun K1 hK1 => ?_)
  refine list_box H rfl S rfl rfl ?_; clear H a S; intro b4 _ a hb4 hbw4 S H
  refine list_does H rfl (does_assign rfl) ?_; clear H a; intro a H
  refine hK1 _ _ ?_
  clear hK1 K1
  refine wp_seq_k (fun K2 hK2 => ?_)
  replace H := H.keep [1, 2, 3, 4] rfl
  refine seq_still (fun K3 hK3 => ?_)
  refine still_does H rfl (does_assign rfl) ?_; clear H a; intro a H
  refine wpStill_nil (hK3 _ ?_)
  clear hK3 K3
  refine wp_block ?_
  refine loop_st (X := Nat) (R0 := _) [1, 2, 3, 4] H rfl (fun k => [(9, .int .i64 (k : Int))]) (fun k => []) (fun g k => k ≤ l.length ∧ g + k = l.length ∧ ∀ q, q < k → (fun k => wornB (⟨rates, pwn, ptn, pag⟩ : Part) l k (selE gb (wearAt (⟨rates, pwn, ptn, pag⟩ : Part) l k))) q = false) (l.length) 0 ?_ (S.sel [0] rfl rfl) (H.keep [9, 1, 2, 3, 4] rfl) ?_
  · exact ⟨by omega, by omega, fun q hq => absurd hq (Nat.not_lt_zero _)⟩
  · intro g1 x1 a w1 hp S H K4 hK4
    obtain ⟨k, rfl⟩ : ∃ y, y = x1 := ⟨_, rfl⟩
    skip
    refine wp_seq_k (fun K5 hK5 => ?_)
    replace H := H.keep [1, 2, 3, 4, 9] rfl
    refine seq_still (fun K6 hK6 => ?_)
    refine still_does H rfl (does_move rfl) ?_; clear H a; intro a H
    refine still_does H rfl (does_move rfl) ?_; clear H a; intro a H
    refine still_does H rfl (does_len sl_63 rfl) ?_; clear H a; intro a H
    refine still_does H rfl (does_lss rfl rfl) ?_; clear H a; intro a H
    refine wpStill_nil (hK6 _ ?_)
    clear hK6 K6
    refine cond_ H rfl (fun hc1 => ?_) (fun hc1 => ?_)
    · try simp only [Bool.or_eq_true, Bool.and_eq_true, Bool.not_eq_true', Bool.or_eq_false_iff, Bool.and_eq_false_iff, Bool.not_eq_false', decide_eq_true_eq, decide_eq_false_iff_not, Int.not_lt, Int.not_le] at hc1
      refine wp_skip ?_
      refine hK5 _ _ ?_
      refine wp_seq_k (fun K7 hK7 => ?_)
      refine wp_block ?_
      replace H := H.keep [1, 2, 3, 4, 9] rfl
      refine seq_still (fun K8 hK8 => ?_)
      refine still_does H rfl (does_move rfl) ?_; clear H a; intro a H
      refine still_does H rfl (does_move rfl) ?_; clear H a; intro a H
      refine still_does H rfl (by first | exact does_indexN sl_37 sz_42 rfl rfl (by first | exact hs.adr (by omega)) (by first | omega | omega) | exact does_index sl_37 sz_42 rfl rfl (by first | exact hs.adr (by omega)) (by omega) (by first | omega | omega)) ?_; clear H a; intro a H
      refine still_does H rfl (by first | exact does_field_pt fo_42_0 rfl | exact does_field fo_42_0 rfl) ?_; clear H a; intro a H
      refine still_does H rfl (does_load one_3 rfl (by first | exact hs.rd S (by omega) (by omega) | exact boxM.rd S (i := 0) rfl rfl)) ?_; clear H a; intro a H
      refine still_does H rfl (does_assign rfl) ?_; clear H a; intro a H
      refine wpStill_nil (hK8 _ ?_)
      clear hK8 K8
      have hp1 := hp
      have SR := (S.sel [0] rfl rfl)
      refine meet_sr (X := Int) [1, 2, 3, 4, 9] H rfl (fun x => [(10, .int .i64 x)]) (fun x => []) (fun x => x = selE gb (wearAt (⟨rates, pwn, ptn, pag⟩ : Part) l k)) SR (fun K10 hK10 => ?_) ?_
      · skip
        replace H := H.keep [1, 2, 3, 4, 9, 10] rfl
        refine seq_still (fun K11 hK11 => ?_)
        refine still_does H rfl (does_move rfl) ?_; clear H a; intro a H
        refine wpStill_nil (hK11 _ ?_)
        clear hK11 K11
        refine cond_ H rfl (fun hc2 => ?_) (fun hc2 => ?_)
        · try simp only [Bool.or_eq_true, Bool.and_eq_true, Bool.not_eq_true', Bool.or_eq_false_iff, Bool.and_eq_false_iff, Bool.not_eq_false', decide_eq_true_eq, decide_eq_false_iff_not, Int.not_lt, Int.not_le] at hc2
          replace H := H.keep [1, 2, 3, 4, 9] rfl
          refine one_still ?_
          refine still_does H rfl (does_move rfl) ?_; clear H a; intro a H
          refine still_does H rfl (does_move rfl) ?_; clear H a; intro a H
          refine still_does H rfl (by first | exact does_indexN sl_37 sz_42 rfl rfl (by first | exact hs.adr (by omega)) (by first | omega | omega) | exact does_index sl_37 sz_42 rfl rfl (by first | exact hs.adr (by omega)) (by omega) (by first | omega | omega)) ?_; clear H a; intro a H
          refine still_does H rfl (by first | exact does_field_pt fo_42_1 rfl | exact does_field fo_42_1 rfl) ?_; clear H a; intro a H
          refine still_does H rfl (does_load one_3 rfl (by first | exact hs.rd S (by omega) (by omega) | exact boxM.rd S (i := 0) rfl rfl)) ?_; clear H a; intro a H
          refine still_does H rfl (does_assign rfl) ?_; clear H a; intro a H
          refine wpStill_nil ?_
          exact hK10 _ a _ (by unfold selE; rw [hc2]; rfl) (S.sel [0] rfl rfl) (H.keep [10, 1, 2, 3, 4, 9] rfl)
        · try simp only [Bool.or_eq_true, Bool.and_eq_true, Bool.not_eq_true', Bool.or_eq_false_iff, Bool.and_eq_false_iff, Bool.not_eq_false', decide_eq_true_eq, decide_eq_false_iff_not, Int.not_lt, Int.not_le] at hc2
          refine wp_skip ?_
          exact hK10 _ a _ (by unfold selE; rw [hc2]; rfl) (S.sel [0] rfl rfl) (H.keep [10, 1, 2, 3, 4, 9] rfl)
      · intro xm a wm hp S H
        obtain ⟨x, rfl⟩ : ∃ y, y = xm := ⟨_, rfl⟩
        clear SR
        have hx := hp; replace hp := hp1
        replace H := H.keep [1, 2, 3, 4, 9, 10] rfl
        refine seq_list (fun K13 hK13 => ?_)
        refine list_does H rfl (by first | exact does_loadBox agg_62 sz_62 rfl S (i := 0) rfl rfl) ?_; clear H a; intro a H
        refine list_does H rfl (does_move rfl) ?_; clear H a; intro a H
        refine list_does H rfl (does_move rfl) ?_; clear H a; intro a H
        refine list_does H rfl (does_move rfl) ?_; clear H a; intro a H
        refine list_call H rfl rfl Try.func50 rfl rfl (ref_Worn rates pwn ptn pag RA rcp l A cp _ (hr.now S) hrn (hl.now S) hn hok k x (by omega)) ?_; clear H a
        rintro _ _ a ⟨rfl, S2⟩ H
        replace S := S.call S2; clear S2
        refine hK13 _ _ ?_
        clear hK13 K13
        refine cond_ H rfl (fun hc3 => ?_) (fun hc3 => ?_)
        · skip
          replace H := H.keep [9] rfl
          refine seq_still (fun K14 hK14 => ?_)
          refine still_does H rfl (does_move rfl) ?_; clear H a; intro a H
          refine still_does H rfl (does_assign rfl) ?_; clear H a; intro a H
          refine wpStill_nil (hK14 _ ?_)
          clear hK14 K14
          refine wp_ret ?_
          refine ret1 (fn := Try.f76) rfl H rfl ?_
          rw [firstO_at (show k < l.length by omega) (by rw [hx] at hc3; exact hc3) hp.2.2]; exact ⟨rfl, (S.sel [] rfl rfl)⟩
        · skip
          refine wp_skip ?_
          refine hK7 _ _ ?_
          replace H := H.keep [1, 2, 3, 4, 9] rfl
          refine one_still ?_
          refine still_does H rfl (does_move rfl) ?_; clear H a; intro a H
          refine still_does H rfl (does_add rfl rfl (by unfold i64ok; omega)) ?_; clear H a; intro a H
          refine still_does H rfl (does_assign rfl) ?_; clear H a; intro a H
          refine wpStill_nil ?_
          exact hK4 (g1 - 1) (k + 1) a _ (by omega) (⟨by omega, by omega, fun q hq => by
            by_cases h : q = k
            · subst h; rw [hx] at hc3; exact hc3
            · exact hp.2.2 q (by omega)⟩) (S.sel [0] rfl rfl) (H.keep [9, 1, 2, 3, 4] rfl)
    · try simp only [Bool.or_eq_true, Bool.and_eq_true, Bool.not_eq_true', Bool.or_eq_false_iff, Bool.and_eq_false_iff, Bool.not_eq_false', decide_eq_true_eq, decide_eq_false_iff_not, Int.not_lt, Int.not_le] at hc1
      refine wp_exit ?_
      refine hK2 _ _ ?_
      replace H := H.keep [] rfl
      refine seq_still (fun K16 hK16 => ?_)
      refine still_does H rfl (does_assign rfl) ?_; clear H a; intro a H
      refine wpStill_nil (hK16 _ ?_)
      clear hK16 K16
      refine wp_ret ?_
      refine ret1 (fn := Try.f76) rfl H rfl ?_
      have hk9 : k = l.length := by omega
      subst hk9
      rw [firstO_none hp.2.2]; exact ⟨rfl, (S.sel [] rfl rfl)⟩

set_option maxRecDepth 100000 in
set_option maxHeartbeats 1000000 in
theorem ref_Beyond (rates : List (Int × Int)) (pwn ptn pag : Int) (RA : Option Addr) (rcp : Nat) (l : List Use) (A : Option Addr) (cp : Nat) (w : World) (hr : InS w noF 2 RA rates.length (scell rates)) (hrn : rates.length ≤ 9223372036854775807) (hl : InS w noF 6 A l.length (ucell l)) (hn : l.length ≤ 9223372036854775807) :
    Calls Try.prog 46 [.agg [.slice RA rates.length rcp, .int .i64 pwn, .int .i64 ptn, .int .i64 pag].toArray, .slice A l.length cp].toArray w (Ret (fun v w' => v = .tuple #[.int .i64 (beyondO (⟨rates, pwn, ptn, pag⟩ : Part) l Prod.snd).1, .int .i64 (beyondO (⟨rates, pwn, ptn, pag⟩ : Part) l Prod.snd).2] ∧ St w noF [] w')) := by
  refine enter Try.func46 rfl Try.ntmps46 rfl (fun a H => ?_)
  have S := St.start w
  refine seq_list (fun K1 hK1 => ?_)
  refine list_box H rfl S rfl rfl ?_; clear H a S; intro b2 _ a hb2 hbw2 S H
  refine list_does H rfl (does_assign rfl) ?_; clear H a; intro a H
  refine list_does H rfl (does_assign rfl) ?_; clear H a; intro a H
  refine hK1 _ _ ?_
  clear hK1 K1
  by_cases hA : wearE (⟨rates, pwn, ptn, pag⟩ : Part) l = 0
  · skip
    have h0 := wearE_zero hA; have hok := checkP_ok h0.1
    replace H := H.keep [1, 2] rfl
    refine seq_list (fun K2 hK2 => ?_)
    refine list_does H rfl (by first | exact does_loadBox agg_62 sz_62 rfl S (i := 0) rfl rfl) ?_; clear H a; intro a H
    refine list_does H rfl (does_move rfl) ?_; clear H a; intro a H
    refine list_call H rfl rfl Try.func43 rfl rfl (ret_imp (ref_Wear rates pwn ptn pag RA rcp l A cp _ (hr.now S) hrn (hl.now S) hn) (fun _ _ => wearR_yes hA)) ?_; clear H a
    rintro _ _ a ⟨A', c', rfl, S2⟩ H
    replace S := S.call S2; clear S2
    refine list_does H rfl (does_move rfl) ?_; clear H a; intro a H
    refine list_does H rfl (does_extract rfl rfl) ?_; clear H a; intro a H
    refine list_does H rfl (does_extract rfl rfl) ?_; clear H a; intro a H
    refine list_does H rfl (does_assign rfl) ?_; clear H a; intro a H
    refine list_does H rfl (does_assign rfl) ?_; clear H a; intro a H
    refine hK2 _ _ ?_
    clear hK2 K2
    refine wp_seq_k (fun K3 hK3 => ?_)
    replace H := H.keep [1, 2, 6, 7] rfl
    refine seq_still (fun K4 hK4 => ?_)
    refine still_does H rfl (does_move rfl) ?_; clear H a; intro a H
    refine still_does H rfl (does_neq rfl rfl) ?_; clear H a; intro a H
    refine wpStill_nil (hK4 _ ?_)
    clear hK4 K4
    refine cond_ H rfl (fun hc1 => ?_) (fun hc1 => ?_)
    · try simp only [Bool.or_eq_true, Bool.and_eq_true, Bool.not_eq_true', Bool.or_eq_false_iff, Bool.and_eq_false_iff, Bool.not_eq_false', decide_eq_true_eq, decide_eq_false_iff_not, Int.not_lt, Int.not_le] at hc1
      all_goals first | (exfalso; omega) | (simp at hc1)
    · try simp only [Bool.or_eq_true, Bool.and_eq_true, Bool.not_eq_true', Bool.or_eq_false_iff, Bool.and_eq_false_iff, Bool.not_eq_false', decide_eq_true_eq, decide_eq_false_iff_not, Int.not_lt, Int.not_le] at hc1
      refine wp_skip ?_
      refine hK3 _ _ ?_
      replace H := H.keep [1, 2, 6] rfl
      refine seq_list (fun K5 hK5 => ?_)
      refine list_does H rfl (by first | exact does_loadBox agg_62 sz_62 rfl S (i := 0) rfl rfl | exact does_loadBox agg_62 sz_62 rfl S (i := 1) rfl rfl) ?_; clear H a; intro a H
      refine list_does H rfl (does_move rfl) ?_; clear H a; intro a H
      refine list_does H rfl (does_move rfl) ?_; clear H a; intro a H
      refine list_call H rfl rfl Try.func76 rfl rfl (ref_beyond rates pwn ptn pag RA rcp l A cp _ (hr.now S) hrn (hl.now S) hn hok A' c' true (ownM.inS S (i := 0) rfl)) ?_; clear H a
      rintro _ _ a ⟨rfl, S2⟩ H
      replace S := S.call S2; clear S2
      refine list_does H rfl (does_assign rfl) ?_; clear H a; intro a H
      refine list_does H rfl (does_assign rfl) ?_; clear H a; intro a H
      refine hK5 _ _ ?_
      clear hK5 K5
      refine wp_ret ?_
      refine ret2 (fn := Try.f46) rfl H rfl rfl ?_
      unfold beyondO; rw [if_neg (by omega)]; exact ⟨rfl, (S.sel [] rfl rfl)⟩
  · skip
    skip
    replace H := H.keep [1, 2] rfl
    refine seq_list (fun K6 hK6 => ?_)
    refine list_does H rfl (by first | exact does_loadBox agg_62 sz_62 rfl S (i := 0) rfl rfl) ?_; clear H a; intro a H
    refine list_does H rfl (does_move rfl) ?_; clear H a; intro a H
    refine list_call H rfl rfl Try.func43 rfl rfl (ret_imp (ref_Wear rates pwn ptn pag RA rcp l A cp _ (hr.now S) hrn (hl.now S) hn) (fun _ _ => wearR_no hA)) ?_; clear H a
    rintro _ _ a ⟨rfl, S2⟩ H
    replace S := S.call S2; clear S2
    refine list_does H rfl (does_move rfl) ?_; clear H a; intro a H
    refine list_does H rfl (does_extract rfl rfl) ?_; clear H a; intro a H
    refine list_does H rfl (does_extract rfl rfl) ?_; clear H a; intro a H
    refine list_does H rfl (does_assign rfl) ?_; clear H a; intro a H
    refine list_does H rfl (does_assign rfl) ?_; clear H a; intro a H
    refine hK6 _ _ ?_
    clear hK6 K6
    refine wp_seq_k (fun K7 hK7 => ?_)
    replace H := H.keep [1, 2, 6, 7] rfl
    refine seq_still (fun K8 hK8 => ?_)
    refine still_does H rfl (does_move rfl) ?_; clear H a; intro a H
    refine still_does H rfl (does_neq rfl rfl) ?_; clear H a; intro a H
    refine wpStill_nil (hK8 _ ?_)
    clear hK8 K8
    refine cond_ H rfl (fun hc2 => ?_) (fun hc2 => ?_)
    · try simp only [Bool.or_eq_true, Bool.and_eq_true, Bool.not_eq_true', Bool.or_eq_false_iff, Bool.and_eq_false_iff, Bool.not_eq_false', decide_eq_true_eq, decide_eq_false_iff_not, Int.not_lt, Int.not_le] at hc2
      replace H := H.keep [7] rfl
      refine seq_still (fun K9 hK9 => ?_)
      refine still_does H rfl (does_move rfl) ?_; clear H a; intro a H
      refine still_does H rfl (does_assign rfl) ?_; clear H a; intro a H
      refine still_does H rfl (does_assign rfl) ?_; clear H a; intro a H
      refine wpStill_nil (hK9 _ ?_)
      clear hK9 K9
      refine wp_ret ?_
      refine ret2 (fn := Try.f46) rfl H rfl rfl ?_
      unfold beyondO; rw [if_pos hA]; exact ⟨rfl, (S.sel [] rfl rfl)⟩
    · try simp only [Bool.or_eq_true, Bool.and_eq_true, Bool.not_eq_true', Bool.or_eq_false_iff, Bool.and_eq_false_iff, Bool.not_eq_false', decide_eq_true_eq, decide_eq_false_iff_not, Int.not_lt, Int.not_le] at hc2
      all_goals (exfalso; omega)

set_option maxRecDepth 100000 in
set_option maxHeartbeats 1000000 in
theorem ref_Surely (rates : List (Int × Int)) (pwn ptn pag : Int) (RA : Option Addr) (rcp : Nat) (l : List Use) (A : Option Addr) (cp : Nat) (w : World) (hr : InS w noF 2 RA rates.length (scell rates)) (hrn : rates.length ≤ 9223372036854775807) (hl : InS w noF 6 A l.length (ucell l)) (hn : l.length ≤ 9223372036854775807) :
    Calls Try.prog 48 [.agg [.slice RA rates.length rcp, .int .i64 pwn, .int .i64 ptn, .int .i64 pag].toArray, .slice A l.length cp].toArray w (Ret (fun v w' => v = .tuple #[.int .i64 (beyondO (⟨rates, pwn, ptn, pag⟩ : Part) l Prod.fst).1, .int .i64 (beyondO (⟨rates, pwn, ptn, pag⟩ : Part) l Prod.fst).2] ∧ St w noF [] w')) := by
  refine enter Try.func48 rfl Try.ntmps48 rfl (fun a H => ?_)
  have S := St.start w
  refine seq_list (fun K1 hK1 => ?_)
  refine list_box H rfl S rfl rfl ?_; clear H a S; intro b2 _ a hb2 hbw2 S H
  refine list_does H rfl (does_assign rfl) ?_; clear H a; intro a H
  refine list_does H rfl (does_assign rfl) ?_; clear H a; intro a H
  refine hK1 _ _ ?_
  clear hK1 K1
  by_cases hA : wearE (⟨rates, pwn, ptn, pag⟩ : Part) l = 0
  · skip
    have h0 := wearE_zero hA; have hok := checkP_ok h0.1
    replace H := H.keep [1, 2] rfl
    refine seq_list (fun K2 hK2 => ?_)
    refine list_does H rfl (by first | exact does_loadBox agg_62 sz_62 rfl S (i := 0) rfl rfl) ?_; clear H a; intro a H
    refine list_does H rfl (does_move rfl) ?_; clear H a; intro a H
    refine list_call H rfl rfl Try.func43 rfl rfl (ret_imp (ref_Wear rates pwn ptn pag RA rcp l A cp _ (hr.now S) hrn (hl.now S) hn) (fun _ _ => wearR_yes hA)) ?_; clear H a
    rintro _ _ a ⟨A', c', rfl, S2⟩ H
    replace S := S.call S2; clear S2
    refine list_does H rfl (does_move rfl) ?_; clear H a; intro a H
    refine list_does H rfl (does_extract rfl rfl) ?_; clear H a; intro a H
    refine list_does H rfl (does_extract rfl rfl) ?_; clear H a; intro a H
    refine list_does H rfl (does_assign rfl) ?_; clear H a; intro a H
    refine list_does H rfl (does_assign rfl) ?_; clear H a; intro a H
    refine hK2 _ _ ?_
    clear hK2 K2
    refine wp_seq_k (fun K3 hK3 => ?_)
    replace H := H.keep [1, 2, 6, 7] rfl
    refine seq_still (fun K4 hK4 => ?_)
    refine still_does H rfl (does_move rfl) ?_; clear H a; intro a H
    refine still_does H rfl (does_neq rfl rfl) ?_; clear H a; intro a H
    refine wpStill_nil (hK4 _ ?_)
    clear hK4 K4
    refine cond_ H rfl (fun hc1 => ?_) (fun hc1 => ?_)
    · try simp only [Bool.or_eq_true, Bool.and_eq_true, Bool.not_eq_true', Bool.or_eq_false_iff, Bool.and_eq_false_iff, Bool.not_eq_false', decide_eq_true_eq, decide_eq_false_iff_not, Int.not_lt, Int.not_le] at hc1
      all_goals first | (exfalso; omega) | (simp at hc1)
    · try simp only [Bool.or_eq_true, Bool.and_eq_true, Bool.not_eq_true', Bool.or_eq_false_iff, Bool.and_eq_false_iff, Bool.not_eq_false', decide_eq_true_eq, decide_eq_false_iff_not, Int.not_lt, Int.not_le] at hc1
      refine wp_skip ?_
      refine hK3 _ _ ?_
      replace H := H.keep [1, 2, 6] rfl
      refine seq_list (fun K5 hK5 => ?_)
      refine list_does H rfl (by first | exact does_loadBox agg_62 sz_62 rfl S (i := 0) rfl rfl | exact does_loadBox agg_62 sz_62 rfl S (i := 1) rfl rfl) ?_; clear H a; intro a H
      refine list_does H rfl (does_move rfl) ?_; clear H a; intro a H
      refine list_does H rfl (does_move rfl) ?_; clear H a; intro a H
      refine list_call H rfl rfl Try.func76 rfl rfl (ref_beyond rates pwn ptn pag RA rcp l A cp _ (hr.now S) hrn (hl.now S) hn hok A' c' false (ownM.inS S (i := 0) rfl)) ?_; clear H a
      rintro _ _ a ⟨rfl, S2⟩ H
      replace S := S.call S2; clear S2
      refine list_does H rfl (does_assign rfl) ?_; clear H a; intro a H
      refine list_does H rfl (does_assign rfl) ?_; clear H a; intro a H
      refine hK5 _ _ ?_
      clear hK5 K5
      refine wp_ret ?_
      refine ret2 (fn := Try.f48) rfl H rfl rfl ?_
      unfold beyondO; rw [if_neg (by omega)]; exact ⟨rfl, (S.sel [] rfl rfl)⟩
  · skip
    skip
    replace H := H.keep [1, 2] rfl
    refine seq_list (fun K6 hK6 => ?_)
    refine list_does H rfl (by first | exact does_loadBox agg_62 sz_62 rfl S (i := 0) rfl rfl) ?_; clear H a; intro a H
    refine list_does H rfl (does_move rfl) ?_; clear H a; intro a H
    refine list_call H rfl rfl Try.func43 rfl rfl (ret_imp (ref_Wear rates pwn ptn pag RA rcp l A cp _ (hr.now S) hrn (hl.now S) hn) (fun _ _ => wearR_no hA)) ?_; clear H a
    rintro _ _ a ⟨rfl, S2⟩ H
    replace S := S.call S2; clear S2
    refine list_does H rfl (does_move rfl) ?_; clear H a; intro a H
    refine list_does H rfl (does_extract rfl rfl) ?_; clear H a; intro a H
    refine list_does H rfl (does_extract rfl rfl) ?_; clear H a; intro a H
    refine list_does H rfl (does_assign rfl) ?_; clear H a; intro a H
    refine list_does H rfl (does_assign rfl) ?_; clear H a; intro a H
    refine hK6 _ _ ?_
    clear hK6 K6
    refine wp_seq_k (fun K7 hK7 => ?_)
    replace H := H.keep [1, 2, 6, 7] rfl
    refine seq_still (fun K8 hK8 => ?_)
    refine still_does H rfl (does_move rfl) ?_; clear H a; intro a H
    refine still_does H rfl (does_neq rfl rfl) ?_; clear H a; intro a H
    refine wpStill_nil (hK8 _ ?_)
    clear hK8 K8
    refine cond_ H rfl (fun hc2 => ?_) (fun hc2 => ?_)
    · try simp only [Bool.or_eq_true, Bool.and_eq_true, Bool.not_eq_true', Bool.or_eq_false_iff, Bool.and_eq_false_iff, Bool.not_eq_false', decide_eq_true_eq, decide_eq_false_iff_not, Int.not_lt, Int.not_le] at hc2
      replace H := H.keep [7] rfl
      refine seq_still (fun K9 hK9 => ?_)
      refine still_does H rfl (does_move rfl) ?_; clear H a; intro a H
      refine still_does H rfl (does_assign rfl) ?_; clear H a; intro a H
      refine still_does H rfl (does_assign rfl) ?_; clear H a; intro a H
      refine wpStill_nil (hK9 _ ?_)
      clear hK9 K9
      refine wp_ret ?_
      refine ret2 (fn := Try.f48) rfl H rfl rfl ?_
      unfold beyondO; rw [if_pos hA]; exact ⟨rfl, (S.sel [] rfl rfl)⟩
    · try simp only [Bool.or_eq_true, Bool.and_eq_true, Bool.not_eq_true', Bool.or_eq_false_iff, Bool.and_eq_false_iff, Bool.not_eq_false', decide_eq_true_eq, decide_eq_false_iff_not, Int.not_lt, Int.not_le] at hc2
      all_goals (exfalso; omega)

set_option maxRecDepth 100000 in
set_option maxHeartbeats 1000000 in
theorem chain_Beyond_1 (a b : Int) (w : World) :
    Calls Try.prog 72 [.agg [.int .i64 a, .int .i64 b].toArray].toArray w (Ret (fun v w' => v = .int .i64 (Prod.snd (a, b)) ∧ St w noF [] w')) := by
  refine enter Try.func72 rfl Try.ntmps72 rfl (fun a H => ?_)
  have S := St.start w
  refine seq_list (fun K1 hK1 => ?_)
  refine list_box H rfl S rfl rfl ?_; clear H a S; intro b1 _ a hb1 hbw1 S H
  refine list_does H rfl (does_assign rfl) ?_; clear H a; intro a H
  refine hK1 _ _ ?_
  clear hK1 K1
  replace H := H.keep [1] rfl
  refine seq_still (fun K2 hK2 => ?_)
  refine still_does H rfl (by first | exact does_field_pt fo_42_1 rfl | exact does_field fo_42_1 rfl) ?_; clear H a; intro a H
  refine still_does H rfl (does_load one_3 rfl (by first | exact boxM.rd S (i := 0) rfl rfl)) ?_; clear H a; intro a H
  refine still_does H rfl (does_assign rfl) ?_; clear H a; intro a H
  refine wpStill_nil (hK2 _ ?_)
  clear hK2 K2
  refine wp_ret ?_
  refine ret1 (fn := Try.f72) rfl H rfl ?_
  exact ⟨rfl, (S.sel [] rfl rfl)⟩

set_option maxRecDepth 100000 in
set_option maxHeartbeats 1000000 in
theorem chain_Surely_1 (a b : Int) (w : World) :
    Calls Try.prog 77 [.agg [.int .i64 a, .int .i64 b].toArray].toArray w (Ret (fun v w' => v = .int .i64 (Prod.fst (a, b)) ∧ St w noF [] w')) := by
  refine enter Try.func77 rfl Try.ntmps77 rfl (fun a H => ?_)
  have S := St.start w
  refine seq_list (fun K1 hK1 => ?_)
  refine list_box H rfl S rfl rfl ?_; clear H a S; intro b1 _ a hb1 hbw1 S H
  refine list_does H rfl (does_assign rfl) ?_; clear H a; intro a H
  refine hK1 _ _ ?_
  clear hK1 K1
  replace H := H.keep [1] rfl
  refine seq_still (fun K2 hK2 => ?_)
  refine still_does H rfl (by first | exact does_field_pt fo_42_0 rfl | exact does_field fo_42_0 rfl) ?_; clear H a; intro a H
  refine still_does H rfl (does_load one_3 rfl (by first | exact boxM.rd S (i := 0) rfl rfl)) ?_; clear H a; intro a H
  refine still_does H rfl (does_assign rfl) ?_; clear H a; intro a H
  refine wpStill_nil (hK2 _ ?_)
  clear hK2 K2
  refine wp_ret ?_
  refine ret1 (fn := Try.f77) rfl H rfl ?_
  exact ⟨rfl, (S.sel [] rfl rfl)⟩

theorem does_gtr_t {P : Program} {w : World} {L : List (Nat × Value)} {ty : TypeId} {pos : String} {af : Array Edge} {dd : Option Nat} {g : Option (Nat × Bool)} {x y : Operand} {xt yt : TypeId} {m n : Int} (hx : ev L x = some (.int .i64 m)) (hy : ev L y = some (.int .i64 n)) (h : n < m) : Does P L ⟨dd, .binOp .gtr xt x y yt, ty, pos, af, g⟩ w (.bool true) := by
  have h1 := does_gtr (P := P) (d := dd) (w := w) (ty := ty) (pos := pos) (af := af) (g := g) (xt := xt) (yt := yt) hx hy
  rw [decide_eq_true h] at h1
  exact h1
theorem does_gtr_f {P : Program} {w : World} {L : List (Nat × Value)} {ty : TypeId} {pos : String} {af : Array Edge} {dd : Option Nat} {g : Option (Nat × Bool)} {x y : Operand} {xt yt : TypeId} {m n : Int} (hx : ev L x = some (.int .i64 m)) (hy : ev L y = some (.int .i64 n)) (h : ¬ n < m) : Does P L ⟨dd, .binOp .gtr xt x y yt, ty, pos, af, g⟩ w (.bool false) := by
  have h1 := does_gtr (P := P) (d := dd) (w := w) (ty := ty) (pos := pos) (af := af) (g := g) (xt := xt) (yt := yt) hx hy
  rw [decide_eq_false h] at h1
  exact h1


set_option maxRecDepth 100000 in
set_option maxHeartbeats 1000000 in
theorem chain_first (rates : List (Int × Int)) (pwn ptn pag : Int) (RA : Option Addr) (rcp : Nat) (l : List Use) (A : Option Addr) (cp : Nat) (f : Nat) (fn : Func) (e : Int × Int → Int) (w : World) (hr : InS w noF 2 RA rates.length (scell rates)) (hrn : rates.length ≤ 9223372036854775807) (hl : InS w noF 6 A l.length (ucell l)) (hn : l.length ≤ 9223372036854775807) (hf : Try.prog.funcs[f]? = some fn) (hfb : fn.body.isNone = false) (hfn : (fn.name == "runtime.NumGoroutine") = false) (hcall : ∀ (a b : Int) (w' : World), Calls Try.prog f [.agg [.int .i64 a, .int .i64 b].toArray].toArray w' (Ret fun v w'' => v = .int .i64 (e (a, b)) ∧ St w' noF [] w'')) :
    Calls Try.prog 71 [.agg [.slice RA rates.length rcp, .int .i64 pwn, .int .i64 ptn, .int .i64 pag].toArray, .slice A l.length cp, .func (.func f) [].toArray [].toArray].toArray w (Ret (fun v w' => v = .tuple #[.int .i64 (beyondO (⟨rates, pwn, ptn, pag⟩ : Part) l e).1, .int .i64 (beyondO (⟨rates, pwn, ptn, pag⟩ : Part) l e).2] ∧ St w noF [] w')) := by
  refine enter Try.func71 rfl Try.ntmps71 rfl (fun a H => ?_)
  have S := St.start w
  refine seq_list (fun K1 hK1 => ?_)
  refine list_box H rfl S rfl rfl ?_; clear H a S; intro b3 _ a hb3 hbw3 S H
  refine list_does H rfl (does_assign rfl) ?_; clear H a; intro a H
  refine list_does H rfl (does_assign rfl) ?_; clear H a; intro a H
  refine hK1 _ _ ?_
  clear hK1 K1
  by_cases hA : wearE (⟨rates, pwn, ptn, pag⟩ : Part) l = 0
  · skip
    have h0 := wearE_zero hA; have hok := checkP_ok h0.1
    have hh := hok.hdr; unfold partHdr at hh; simp only [decide_eq_true_eq] at hh; have hll := hok.len
    replace H := H.keep [1, 2, 3] rfl
    refine seq_list (fun K2 hK2 => ?_)
    refine list_does H rfl (by first | exact does_loadIn agg_62 sz_62 rfl S hl (by omega) (by omega) | exact does_loadBox agg_62 sz_62 rfl S (i := 0) rfl rfl) ?_; clear H a; intro a H
    refine list_does H rfl (does_move rfl) ?_; clear H a; intro a H
    refine list_call H rfl rfl Try.func37 rfl rfl (ret_imp (chain_Wear rates pwn ptn pag RA rcp l A cp _ (hr.now S) hrn (hl.now S) hn) (fun _ _ => wearR_yes hA)) ?_; clear H a
    rintro _ _ a ⟨A', c', rfl, S2⟩ H
    replace S := S.call S2; clear S2
    refine list_does H rfl (does_move rfl) ?_; clear H a; intro a H
    refine list_does H rfl (does_extract rfl rfl) ?_; clear H a; intro a H
    refine list_does H rfl (does_extract rfl rfl) ?_; clear H a; intro a H
    refine list_does H rfl (does_assign rfl) ?_; clear H a; intro a H
    refine list_does H rfl (does_assign rfl) ?_; clear H a; intro a H
    refine hK2 _ _ ?_
    clear hK2 K2
    refine wp_seq_k (fun K3 hK3 => ?_)
    replace H := H.keep [1, 2, 3, 8, 9] rfl
    refine seq_still (fun K4 hK4 => ?_)
    refine still_does H rfl (does_move rfl) ?_; clear H a; intro a H
    refine still_does H rfl (does_neq rfl rfl) ?_; clear H a; intro a H
    refine wpStill_nil (hK4 _ ?_)
    clear hK4 K4
    refine cond_ H rfl (fun hc1 => ?_) (fun hc1 => ?_)
    · try simp only [Bool.or_eq_true, Bool.and_eq_true, Bool.not_eq_true', Bool.or_eq_false_iff, Bool.and_eq_false_iff, Bool.not_eq_false', decide_eq_true_eq, decide_eq_false_iff_not, Int.not_lt, Int.not_le] at hc1
      all_goals first | (exfalso; omega) | (simp at hc1)
    · try simp only [Bool.or_eq_true, Bool.and_eq_true, Bool.not_eq_true', Bool.or_eq_false_iff, Bool.and_eq_false_iff, Bool.not_eq_false', decide_eq_true_eq, decide_eq_false_iff_not, Int.not_lt, Int.not_le] at hc1
      refine wp_skip ?_
      refine hK3 _ _ ?_
      replace H := H.keep [1, 2, 3, 8] rfl
      refine seq_still (fun K5 hK5 => ?_)
      refine still_does H rfl (does_assign rfl) ?_; clear H a; intro a H
      refine wpStill_nil (hK5 _ ?_)
      clear hK5 K5
      refine wp_seq_k (fun K6 hK6 => ?_)
      replace H := H.keep [1, 2, 3, 8, 10] rfl
      refine seq_still (fun K7 hK7 => ?_)
      refine still_does H rfl (does_move rfl) ?_; clear H a; intro a H
      refine still_does H rfl (does_len sl_63 rfl) ?_; clear H a; intro a H
      refine still_does H rfl (does_move rfl) ?_; clear H a; intro a H
      refine wpStill_nil (hK7 _ ?_)
      clear hK7 K7
      refine wp_block ?_
      refine loop_st (X := Nat) (R0 := _) [2, 3, 8, 22, 23] H rfl (fun k => [(10, .int .i64 (sumT l k)), (24, .int .i64 (k : Int))]) (fun k => []) (fun g k => k ≤ l.length ∧ g + k = l.length ∧ ∀ q, q < k → (fun k => wornB (⟨rates, pwn, ptn, pag⟩ : Part) l k (e (wearAt (⟨rates, pwn, ptn, pag⟩ : Part) l k))) q = false) (l.length) 0 ?_ (S.sel [0, 1] rfl rfl) (H.keep [10, 24, 2, 3, 8, 22, 23] rfl) ?_
      · exact ⟨by omega, by omega, fun q hq => absurd hq (Nat.not_lt_zero _)⟩
      · intro g1 x1 a w1 hp S H K8 hK8
        obtain ⟨k, rfl⟩ : ∃ y, y = x1 := ⟨_, rfl⟩
        skip
        replace H := H.keep [2, 3, 8, 10, 22, 23, 24] rfl
        refine seq_still (fun K9 hK9 => ?_)
        refine still_does H rfl (does_lss rfl rfl) ?_; clear H a; intro a H
        refine wpStill_nil (hK9 _ ?_)
        clear hK9 K9
        refine wp_seq_k (fun K10 hK10 => ?_)
        refine cond_ H rfl (fun hc2 => ?_) (fun hc2 => ?_)
        · try simp only [Bool.or_eq_true, Bool.and_eq_true, Bool.not_eq_true', Bool.or_eq_false_iff, Bool.and_eq_false_iff, Bool.not_eq_false', decide_eq_true_eq, decide_eq_false_iff_not, Int.not_lt, Int.not_le] at hc2
          refine wp_skip ?_
          refine hK10 _ _ ?_
          refine wp_seq_k (fun K11 hK11 => ?_)
          refine wp_block ?_
          replace H := H.keep [2, 3, 8, 10, 22, 23, 24] rfl
          refine seq_list (fun K12 hK12 => ?_)
          refine list_does H rfl (does_move rfl) ?_; clear H a; intro a H
          refine list_does H rfl (by first | exact does_indexN sl_63 sz_70 rfl rfl (by first | exact hl.adr (by omega) | exact hr.adr (by omega) | exact ownM.adr S (i := 0) rfl (by omega)) (by first | omega | omega) | exact does_index sl_63 sz_70 rfl rfl (by first | exact hl.adr (by omega) | exact hr.adr (by omega) | exact ownM.adr S (i := 0) rfl (by omega)) (by omega) (by first | omega | omega)) ?_; clear H a; intro a H
          refine list_does H rfl (by first | exact does_loadIn agg_70 sz_70 rfl S hl (by omega) (by omega) | exact does_loadOwn agg_70 sz_70 rfl S (i := 0) rfl (by omega) (by omega) | exact does_loadBox agg_70 sz_70 rfl S (i := 0) rfl rfl | exact does_loadBox agg_70 sz_70 rfl S (i := 1) rfl rfl) ?_; clear H a; intro a H
          refine list_alloc H rfl S ze_70 ?_; clear H a S; intro b12 _ a hb12 hbw12 S H
          refine list_does H rfl (does_assign rfl) ?_; clear H a; intro a H
          first | (refine list_store H S (i := 0) rfl rfl rfl rfl sz_70 rfl rfl ?_) | (refine list_store H S (i := 1) rfl rfl rfl rfl sz_70 rfl rfl ?_) | (refine list_store H S (i := 2) rfl rfl rfl rfl sz_70 rfl rfl ?_) | (refine list_store_own H S (i := 0) rfl rfl rfl (by omega) (by omega) sz_70 rfl ?_) | (refine list_store_own H S (i := 1) rfl rfl rfl (by omega) (by omega) sz_70 rfl ?_) | (refine list_store_own H S (i := 2) rfl rfl rfl (by omega) (by omega) sz_70 rfl ?_)
          clear H a S; intro _ a S H
          refine hK12 _ _ ?_
          clear hK12 K12
          have hsb := sumT_bd hok k (by omega)
          have hu := hok.use (k := k) (by omega); unfold useOk at hu; simp only [decide_eq_true_eq] at hu
          replace H := H.keep [2, 3, 8, 10, 11, 12, 22, 23, 24] rfl
          refine seq_still (fun K13 hK13 => ?_)
          refine still_does H rfl (does_move rfl) ?_; clear H a; intro a H
          refine still_does H rfl (by first | exact does_field_pt fo_70_1 rfl | exact does_field fo_70_1 rfl) ?_; clear H a; intro a H
          refine still_does H rfl (does_load one_3 rfl (by first | exact boxM.rd S (i := 0) rfl rfl | exact boxM.rd S (i := 1) rfl rfl | exact boxM.rd S (i := 2) rfl rfl)) ?_; clear H a; intro a H
          refine still_does H rfl (does_add rfl rfl (by unfold i64ok; omega)) ?_; clear H a; intro a H
          refine still_does H rfl (does_assign rfl) ?_; clear H a; intro a H
          refine wpStill_nil (hK13 _ ?_)
          clear hK13 K13
          rcases (show ptn < sumT l (k + 1) ∨ (¬ ptn < sumT l (k + 1) ∧ pag < (l.getD k Use.zero).day) ∨ (¬ ptn < sumT l (k + 1) ∧ ¬ pag < (l.getD k Use.zero).day) from by omega) with hB | hB | hB
          · skip
            replace H := H.keep [2, 3, 8, 10, 11, 12, 22, 23, 24] rfl
            replace S := S.drew
            refine seq_wq [(0, true), (1, true), (2, true), (3, true), (4, true), (5, true), (6, true), (7, true), (8, true), (9, true), (10, true), (11, true), (12, true), (13, true), (14, true), (15, true), (16, true), (17, true), (18, true), (19, true), (20, true), (21, true), (22, true)] (by kernel_rfl) (by kernel_rfl) (S.sel [0, 1, 2] rfl rfl) (fun K14 hK14 => ?_)
            refine wq_does H rfl rfl (fun _ S => does_move rfl) ?_; clear H a; intro a H
            refine wq_does H rfl rfl (fun _ S => by first | exact does_field_pt fo_62_2 rfl | exact does_field fo_62_2 rfl) ?_; clear H a; intro a H
            refine wq_does H rfl rfl (fun _ S => does_load one_3 rfl (by first | exact boxM.rd S (i := 0) rfl rfl | exact boxM.rd S (i := 1) rfl rfl | exact boxM.rd S (i := 2) rfl rfl)) ?_; clear H a; intro a H
            refine wq_does H rfl rfl (fun _ S => does_gtr_t rfl rfl hB) ?_; clear H a; intro a H
            refine wq_does H rfl rfl (fun _ S => does_move rfl) ?_; clear H a; intro a H
            refine wq_no H rfl rfl rfl rfl rfl ?_; clear H a; intro a H
            refine wq_no H rfl rfl rfl rfl rfl ?_; clear H a; intro a H
            refine wq_no H rfl rfl rfl rfl rfl ?_; clear H a; intro a H
            refine wq_no H rfl rfl rfl rfl rfl ?_; clear H a; intro a H
            refine wq_no H rfl rfl rfl rfl rfl ?_; clear H a; intro a H
            refine wq_does H rfl rfl (fun _ S => by first | exact does_or rfl rfl rfl | exact does_pick rfl rfl rfl) ?_; clear H a; intro a H
            refine wq_does H rfl rfl (fun _ S => does_move rfl) ?_; clear H a; intro a H
            refine wq_no H rfl rfl rfl rfl rfl ?_; clear H a; intro a H
            refine wq_no H rfl rfl rfl rfl rfl ?_; clear H a; intro a H
            refine wq_no H rfl rfl rfl rfl rfl ?_; clear H a; intro a H
            refine wq_no H rfl rfl rfl rfl rfl ?_; clear H a; intro a H
            refine wq_no H rfl rfl rfl rfl rfl ?_; clear H a; intro a H
            refine wq_no H rfl rfl rfl rfl rfl ?_; clear H a; intro a H
            refine wq_no H rfl rfl rfl rfl rfl ?_; clear H a; intro a H
            refine wq_no H rfl rfl rfl rfl rfl ?_; clear H a; intro a H
            refine wq_no H rfl rfl rfl rfl rfl ?_; clear H a; intro a H
            refine wq_no H rfl rfl rfl rfl rfl ?_; clear H a; intro a H
            refine wq_does H rfl rfl (fun _ S => by first | exact does_or rfl rfl rfl | exact does_pick rfl rfl rfl) ?_; clear H a; intro a H
            refine wq_nil ?_
            refine hK14 _ _ ?_
            clear hK14 K14
            refine cond_ H rfl (fun hc3 => ?_) (fun hc3 => ?_)
            · skip
              replace H := H.keep [11] rfl
              refine seq_still (fun K15 hK15 => ?_)
              refine still_does H rfl (does_move rfl) ?_; clear H a; intro a H
              refine still_does H rfl (does_assign rfl) ?_; clear H a; intro a H
              refine still_does H rfl (does_assign rfl) ?_; clear H a; intro a H
              refine wpStill_nil (hK15 _ ?_)
              clear hK15 K15
              refine wp_ret ?_
              refine ret2 (fn := Try.f71) rfl H rfl rfl ?_
              have e9 : firstO (fun k => wornB (⟨rates, pwn, ptn, pag⟩ : Part) l k (e (wearAt (⟨rates, pwn, ptn, pag⟩ : Part) l k))) l.length = k := firstO_at (by omega) (by show wornB _ _ _ _ = true; unfold wornB; rw [decide_eq_true hB]; simp) hp.2.2
              unfold beyondO; rw [if_neg (by omega), e9]; exact ⟨rfl, (S.sel [] rfl rfl)⟩
            · skip
              cases hc3
          · skip
            replace H := H.keep [2, 3, 8, 10, 11, 12, 22, 23, 24] rfl
            replace S := S.drew
            refine seq_wq [(0, true), (1, true), (2, true), (3, true), (4, true), (5, true), (6, true), (7, true), (8, true), (9, true), (10, true), (11, true), (12, true), (13, true), (14, true), (15, true), (16, true), (17, true), (18, true), (19, true), (20, true), (21, true), (22, true)] (by kernel_rfl) (by kernel_rfl) (S.sel [0, 1, 2] rfl rfl) (fun K16 hK16 => ?_)
            refine wq_does H rfl rfl (fun _ S => does_move rfl) ?_; clear H a; intro a H
            refine wq_does H rfl rfl (fun _ S => by first | exact does_field_pt fo_62_2 rfl | exact does_field fo_62_2 rfl) ?_; clear H a; intro a H
            refine wq_does H rfl rfl (fun _ S => does_load one_3 rfl (by first | exact boxM.rd S (i := 0) rfl rfl | exact boxM.rd S (i := 1) rfl rfl | exact boxM.rd S (i := 2) rfl rfl)) ?_; clear H a; intro a H
            refine wq_does H rfl rfl (fun _ S => does_gtr_f rfl rfl hB.1) ?_; clear H a; intro a H
            refine wq_does H rfl rfl (fun _ S => does_move rfl) ?_; clear H a; intro a H
            refine wq_yes H rfl rfl rfl rfl (fun _ S => by first | exact does_field_pt fo_70_0 rfl | exact does_field fo_70_0 rfl) ?_; clear H a; intro a H
            refine wq_yes H rfl rfl rfl rfl (fun _ S => does_load one_3 rfl (by first | exact boxM.rd S (i := 0) rfl rfl | exact boxM.rd S (i := 1) rfl rfl | exact boxM.rd S (i := 2) rfl rfl)) ?_; clear H a; intro a H
            refine wq_yes H rfl rfl rfl rfl (fun _ S => by first | exact does_field_pt fo_62_3 rfl | exact does_field fo_62_3 rfl) ?_; clear H a; intro a H
            refine wq_yes H rfl rfl rfl rfl (fun _ S => does_load one_3 rfl (by first | exact boxM.rd S (i := 0) rfl rfl | exact boxM.rd S (i := 1) rfl rfl | exact boxM.rd S (i := 2) rfl rfl)) ?_; clear H a; intro a H
            refine wq_yes H rfl rfl rfl rfl (fun _ S => does_gtr_t rfl rfl hB.2) ?_; clear H a; intro a H
            refine wq_does H rfl rfl (fun _ S => by first | exact does_or rfl rfl rfl | exact does_pick rfl rfl rfl) ?_; clear H a; intro a H
            refine wq_does H rfl rfl (fun _ S => does_move rfl) ?_; clear H a; intro a H
            refine wq_no H rfl rfl rfl rfl rfl ?_; clear H a; intro a H
            refine wq_no H rfl rfl rfl rfl rfl ?_; clear H a; intro a H
            refine wq_no H rfl rfl rfl rfl rfl ?_; clear H a; intro a H
            refine wq_no H rfl rfl rfl rfl rfl ?_; clear H a; intro a H
            refine wq_no H rfl rfl rfl rfl rfl ?_; clear H a; intro a H
            refine wq_no H rfl rfl rfl rfl rfl ?_; clear H a; intro a H
            refine wq_no H rfl rfl rfl rfl rfl ?_; clear H a; intro a H
            refine wq_no H rfl rfl rfl rfl rfl ?_; clear H a; intro a H
            refine wq_no H rfl rfl rfl rfl rfl ?_; clear H a; intro a H
            refine wq_no H rfl rfl rfl rfl rfl ?_; clear H a; intro a H
            refine wq_does H rfl rfl (fun _ S => by first | exact does_or rfl rfl rfl | exact does_pick rfl rfl rfl) ?_; clear H a; intro a H
            refine wq_nil ?_
            refine hK16 _ _ ?_
            clear hK16 K16
            refine cond_ H rfl (fun hc4 => ?_) (fun hc4 => ?_)
            · skip
              replace H := H.keep [11] rfl
              refine seq_still (fun K17 hK17 => ?_)
              refine still_does H rfl (does_move rfl) ?_; clear H a; intro a H
              refine still_does H rfl (does_assign rfl) ?_; clear H a; intro a H
              refine still_does H rfl (does_assign rfl) ?_; clear H a; intro a H
              refine wpStill_nil (hK17 _ ?_)
              clear hK17 K17
              refine wp_ret ?_
              refine ret2 (fn := Try.f71) rfl H rfl rfl ?_
              have e9 : firstO (fun k => wornB (⟨rates, pwn, ptn, pag⟩ : Part) l k (e (wearAt (⟨rates, pwn, ptn, pag⟩ : Part) l k))) l.length = k := firstO_at (by omega) (by show wornB _ _ _ _ = true; unfold wornB; rw [decide_eq_true hB.2]; simp) hp.2.2
              unfold beyondO; rw [if_neg (by omega), e9]; exact ⟨rfl, (S.sel [] rfl rfl)⟩
            · skip
              cases hc4
          · skip
            replace H := H.keep [2, 3, 8, 10, 11, 12, 22, 23, 24] rfl
            replace S := S.drew
            refine seq_wq [(0, true), (1, true), (2, true), (3, true), (4, true), (5, true), (6, true), (7, true), (8, true), (9, true), (10, true), (11, true), (12, true), (13, true), (14, true), (15, true), (16, true), (18, true), (19, true), (20, true), (17, false), (21, true), (22, true)] (by kernel_rfl) (by kernel_rfl) (S.sel [0, 1, 2] rfl rfl) (fun K18 hK18 => ?_)
            refine wq_does H rfl rfl (fun _ S => does_move rfl) ?_; clear H a; intro a H
            refine wq_does H rfl rfl (fun _ S => by first | exact does_field_pt fo_62_2 rfl | exact does_field fo_62_2 rfl) ?_; clear H a; intro a H
            refine wq_does H rfl rfl (fun _ S => does_load one_3 rfl (by first | exact boxM.rd S (i := 0) rfl rfl | exact boxM.rd S (i := 1) rfl rfl | exact boxM.rd S (i := 2) rfl rfl)) ?_; clear H a; intro a H
            refine wq_does H rfl rfl (fun _ S => does_gtr_f rfl rfl hB.1) ?_; clear H a; intro a H
            refine wq_does H rfl rfl (fun _ S => does_move rfl) ?_; clear H a; intro a H
            refine wq_yes H rfl rfl rfl rfl (fun _ S => by first | exact does_field_pt fo_70_0 rfl | exact does_field fo_70_0 rfl) ?_; clear H a; intro a H
            refine wq_yes H rfl rfl rfl rfl (fun _ S => does_load one_3 rfl (by first | exact boxM.rd S (i := 0) rfl rfl | exact boxM.rd S (i := 1) rfl rfl | exact boxM.rd S (i := 2) rfl rfl)) ?_; clear H a; intro a H
            refine wq_yes H rfl rfl rfl rfl (fun _ S => by first | exact does_field_pt fo_62_3 rfl | exact does_field fo_62_3 rfl) ?_; clear H a; intro a H
            refine wq_yes H rfl rfl rfl rfl (fun _ S => does_load one_3 rfl (by first | exact boxM.rd S (i := 0) rfl rfl | exact boxM.rd S (i := 1) rfl rfl | exact boxM.rd S (i := 2) rfl rfl)) ?_; clear H a; intro a H
            refine wq_yes H rfl rfl rfl rfl (fun _ S => does_gtr_f rfl rfl hB.2) ?_; clear H a; intro a H
            refine wq_does H rfl rfl (fun _ S => by first | exact does_or rfl rfl rfl | exact does_pick rfl rfl rfl) ?_; clear H a; intro a H
            refine wq_does H rfl rfl (fun _ S => does_move rfl) ?_; clear H a; intro a H
            refine wq_yes H rfl rfl rfl rfl (fun _ S => does_move rfl) ?_; clear H a; intro a H
            refine wq_yes H rfl rfl rfl rfl (fun _ S => does_move rfl) ?_; clear H a; intro a H
            refine wq_yes H rfl rfl rfl rfl (fun _ S => does_move rfl) ?_; clear H a; intro a H
            refine wq_yes H rfl rfl rfl rfl (fun _ S => by first | exact does_indexN sl_37 sz_42 rfl rfl (by first | exact hl.adr (by omega) | exact hr.adr (by omega) | exact ownM.adr S (i := 1) rfl (by omega)) (by first | omega | omega) | exact does_index sl_37 sz_42 rfl rfl (by first | exact hl.adr (by omega) | exact hr.adr (by omega) | exact ownM.adr S (i := 1) rfl (by omega)) (by omega) (by first | omega | omega)) ?_; clear H a; intro a H
            refine wq_yes H rfl rfl rfl rfl (fun _ S => by first | exact does_loadIn agg_42 sz_42 rfl S hl (by omega) (by omega) | exact does_loadOwn agg_42 sz_42 rfl S (i := 1) rfl (by omega) (by omega) | exact does_loadBox agg_42 sz_42 rfl S (i := 0) rfl rfl | exact does_loadBox agg_42 sz_42 rfl S (i := 1) rfl rfl | exact does_loadBox agg_42 sz_42 rfl S (i := 2) rfl rfl) ?_; clear H a; intro a H
            refine wq_yes H rfl rfl rfl rfl (fun _ S => by first | exact does_field_pt fo_62_1 rfl | exact does_field fo_62_1 rfl) ?_; clear H a; intro a H
            refine wq_yes H rfl rfl rfl rfl (fun _ S => does_load one_3 rfl (by first | exact boxM.rd S (i := 0) rfl rfl | exact boxM.rd S (i := 1) rfl rfl | exact boxM.rd S (i := 2) rfl rfl)) ?_; clear H a; intro a H
            refine wq_yes H rfl rfl rfl rfl (fun _ S => does_mul rfl rfl (by unfold i64ok; omega)) ?_; clear H a; intro a H
            refine wq_eff rfl ?_
            refine list_yes H rfl rfl ?_
            refine list_callv (fs := []) (cs := []) (vs := [.agg [.int .i64 (wearAt (⟨rates, pwn, ptn, pag⟩ : Part) l k).1, .int .i64 (wearAt (⟨rates, pwn, ptn, pag⟩ : Part) l k).2].toArray]) H rfl rfl rfl (hf) (hfb) (hfn) (by exact hcall (wearAt (⟨rates, pwn, ptn, pag⟩ : Part) l k).1 (wearAt (⟨rates, pwn, ptn, pag⟩ : Part) l k).2 _) ?_; clear H a
            rintro _ _ a ⟨rfl, S2⟩ H
            replace S := S.call S2; clear S2
            refine wpList_nil (And.intro (S.sel [0, 1, 2] rfl rfl) ?_)
            refine wq_yes H rfl rfl rfl rfl (fun _ S => does_gtr rfl rfl) ?_; clear H a; intro a H
            refine wq_does H rfl rfl (fun _ S => by first | exact does_or rfl rfl rfl | exact does_pick rfl rfl rfl) ?_; clear H a; intro a H
            refine wq_nil ?_
            refine hK18 _ _ ?_
            clear hK18 K18
            refine cond_ H rfl (fun hc5 => ?_) (fun hc5 => ?_)
            · skip
              replace H := H.keep [11] rfl
              refine seq_still (fun K19 hK19 => ?_)
              refine still_does H rfl (does_move rfl) ?_; clear H a; intro a H
              refine still_does H rfl (does_assign rfl) ?_; clear H a; intro a H
              refine still_does H rfl (does_assign rfl) ?_; clear H a; intro a H
              refine wpStill_nil (hK19 _ ?_)
              clear hK19 K19
              refine wp_ret ?_
              refine ret2 (fn := Try.f71) rfl H rfl rfl ?_
              have e9 : firstO (fun k => wornB (⟨rates, pwn, ptn, pag⟩ : Part) l k (e (wearAt (⟨rates, pwn, ptn, pag⟩ : Part) l k))) l.length = k := firstO_at (by omega) (by show wornB _ _ _ _ = true; unfold wornB; rw [decide_eq_false hB.1, decide_eq_false hB.2]; exact hc5) hp.2.2
              unfold beyondO; rw [if_neg (by omega), e9]; exact ⟨rfl, (S.sel [] rfl rfl)⟩
            · skip
              refine wp_skip ?_
              refine hK11 _ _ ?_
              replace H := H.keep [2, 3, 8, 10, 22, 23, 24] rfl
              refine one_still ?_
              refine still_does H rfl (does_add rfl rfl (by unfold i64ok; omega)) ?_; clear H a; intro a H
              refine still_does H rfl (does_move rfl) ?_; clear H a; intro a H
              refine wpStill_nil ?_
              exact hK8 (g1 - 1) (k + 1) a _ (by omega) (⟨by omega, by omega, fun q hq => by
                by_cases h : q = k
                · subst h; show wornB _ _ _ _ = false; unfold wornB; rw [decide_eq_false hB.1, decide_eq_false hB.2]; exact hc5
                · exact hp.2.2 q (by omega)⟩) (S.sel [1, 2] rfl rfl) (H.keep [10, 24, 2, 3, 8, 22, 23] rfl)
        · try simp only [Bool.or_eq_true, Bool.and_eq_true, Bool.not_eq_true', Bool.or_eq_false_iff, Bool.and_eq_false_iff, Bool.not_eq_false', decide_eq_true_eq, decide_eq_false_iff_not, Int.not_lt, Int.not_le] at hc2
          refine wp_exit ?_
          refine hK6 _ _ ?_
          replace H := H.keep [] rfl
          refine seq_still (fun K21 hK21 => ?_)
          refine still_does H rfl (does_assign rfl) ?_; clear H a; intro a H
          refine still_does H rfl (does_assign rfl) ?_; clear H a; intro a H
          refine wpStill_nil (hK21 _ ?_)
          clear hK21 K21
          refine wp_ret ?_
          refine ret2 (fn := Try.f71) rfl H rfl rfl ?_
          have hk9 : k = l.length := by omega
          subst hk9
          unfold beyondO; rw [if_neg (by omega), firstO_none hp.2.2]; exact ⟨rfl, (S.sel [] rfl rfl)⟩
  · skip
    skip
    replace H := H.keep [1, 2, 3] rfl
    refine seq_list (fun K22 hK22 => ?_)
    refine list_does H rfl (by first | exact does_loadIn agg_62 sz_62 rfl S hl (by omega) (by omega) | exact does_loadBox agg_62 sz_62 rfl S (i := 0) rfl rfl) ?_; clear H a; intro a H
    refine list_does H rfl (does_move rfl) ?_; clear H a; intro a H
    refine list_call H rfl rfl Try.func37 rfl rfl (ret_imp (chain_Wear rates pwn ptn pag RA rcp l A cp _ (hr.now S) hrn (hl.now S) hn) (fun _ _ => wearR_no hA)) ?_; clear H a
    rintro _ _ a ⟨rfl, S2⟩ H
    replace S := S.call S2; clear S2
    refine list_does H rfl (does_move rfl) ?_; clear H a; intro a H
    refine list_does H rfl (does_extract rfl rfl) ?_; clear H a; intro a H
    refine list_does H rfl (does_extract rfl rfl) ?_; clear H a; intro a H
    refine list_does H rfl (does_assign rfl) ?_; clear H a; intro a H
    refine list_does H rfl (does_assign rfl) ?_; clear H a; intro a H
    refine hK22 _ _ ?_
    clear hK22 K22
    refine wp_seq_k (fun K23 hK23 => ?_)
    replace H := H.keep [1, 2, 3, 8, 9] rfl
    refine seq_still (fun K24 hK24 => ?_)
    refine still_does H rfl (does_move rfl) ?_; clear H a; intro a H
    refine still_does H rfl (does_neq rfl rfl) ?_; clear H a; intro a H
    refine wpStill_nil (hK24 _ ?_)
    clear hK24 K24
    refine cond_ H rfl (fun hc6 => ?_) (fun hc6 => ?_)
    · try simp only [Bool.or_eq_true, Bool.and_eq_true, Bool.not_eq_true', Bool.or_eq_false_iff, Bool.and_eq_false_iff, Bool.not_eq_false', decide_eq_true_eq, decide_eq_false_iff_not, Int.not_lt, Int.not_le] at hc6
      replace H := H.keep [9] rfl
      refine seq_still (fun K25 hK25 => ?_)
      refine still_does H rfl (does_move rfl) ?_; clear H a; intro a H
      refine still_does H rfl (does_assign rfl) ?_; clear H a; intro a H
      refine still_does H rfl (does_assign rfl) ?_; clear H a; intro a H
      refine wpStill_nil (hK25 _ ?_)
      clear hK25 K25
      refine wp_ret ?_
      refine ret2 (fn := Try.f71) rfl H rfl rfl ?_
      unfold beyondO; rw [if_pos hA]; exact ⟨rfl, (S.sel [] rfl rfl)⟩
    · try simp only [Bool.or_eq_true, Bool.and_eq_true, Bool.not_eq_true', Bool.or_eq_false_iff, Bool.and_eq_false_iff, Bool.not_eq_false', decide_eq_true_eq, decide_eq_false_iff_not, Int.not_lt, Int.not_le] at hc6
      all_goals (exfalso; omega)

set_option maxRecDepth 100000 in
set_option maxHeartbeats 1000000 in
theorem chain_Beyond (rates : List (Int × Int)) (pwn ptn pag : Int) (RA : Option Addr) (rcp : Nat) (l : List Use) (A : Option Addr) (cp : Nat) (w : World) (hr : InS w noF 2 RA rates.length (scell rates)) (hrn : rates.length ≤ 9223372036854775807) (hl : InS w noF 6 A l.length (ucell l)) (hn : l.length ≤ 9223372036854775807) :
    Calls Try.prog 40 [.agg [.slice RA rates.length rcp, .int .i64 pwn, .int .i64 ptn, .int .i64 pag].toArray, .slice A l.length cp].toArray w (Ret (fun v w' => v = .tuple #[.int .i64 (beyondO (⟨rates, pwn, ptn, pag⟩ : Part) l Prod.snd).1, .int .i64 (beyondO (⟨rates, pwn, ptn, pag⟩ : Part) l Prod.snd).2] ∧ St w noF [] w')) := by
  refine enter Try.func40 rfl Try.ntmps40 rfl (fun a H => ?_)
  have S := St.start w
  refine seq_list (fun K1 hK1 => ?_)
  refine list_box H rfl S rfl rfl ?_; clear H a S; intro b2 _ a hb2 hbw2 S H
  refine list_does H rfl (does_assign rfl) ?_; clear H a; intro a H
  refine list_does H rfl (does_assign rfl) ?_; clear H a; intro a H
  refine hK1 _ _ ?_
  clear hK1 K1
  replace H := H.keep [1, 2] rfl
  refine seq_list (fun K2 hK2 => ?_)
  refine list_does H rfl (by first | exact does_loadBox agg_62 sz_62 rfl S (i := 0) rfl rfl) ?_; clear H a; intro a H
  refine list_does H rfl (does_move rfl) ?_; clear H a; intro a H
  refine list_call H rfl rfl Try.func71 rfl rfl (chain_first rates pwn ptn pag RA rcp l A cp 72 _ Prod.snd _ (hr.now S) hrn (hl.now S) hn Try.func72 rfl rfl (fun a b w' => chain_Beyond_1 a b w')) ?_; clear H a
  rintro _ _ a ⟨rfl, S2⟩ H
  replace S := S.call S2; clear S2
  refine list_does H rfl (does_extract rfl rfl) ?_; clear H a; intro a H
  refine list_does H rfl (does_extract rfl rfl) ?_; clear H a; intro a H
  refine list_does H rfl (does_assign rfl) ?_; clear H a; intro a H
  refine list_does H rfl (does_assign rfl) ?_; clear H a; intro a H
  refine hK2 _ _ ?_
  clear hK2 K2
  refine wp_ret ?_
  refine ret2 (fn := Try.f40) rfl H rfl rfl ?_
  exact ⟨rfl, (S.sel [] rfl rfl)⟩

set_option maxRecDepth 100000 in
set_option maxHeartbeats 1000000 in
theorem chain_Surely (rates : List (Int × Int)) (pwn ptn pag : Int) (RA : Option Addr) (rcp : Nat) (l : List Use) (A : Option Addr) (cp : Nat) (w : World) (hr : InS w noF 2 RA rates.length (scell rates)) (hrn : rates.length ≤ 9223372036854775807) (hl : InS w noF 6 A l.length (ucell l)) (hn : l.length ≤ 9223372036854775807) :
    Calls Try.prog 47 [.agg [.slice RA rates.length rcp, .int .i64 pwn, .int .i64 ptn, .int .i64 pag].toArray, .slice A l.length cp].toArray w (Ret (fun v w' => v = .tuple #[.int .i64 (beyondO (⟨rates, pwn, ptn, pag⟩ : Part) l Prod.fst).1, .int .i64 (beyondO (⟨rates, pwn, ptn, pag⟩ : Part) l Prod.fst).2] ∧ St w noF [] w')) := by
  refine enter Try.func47 rfl Try.ntmps47 rfl (fun a H => ?_)
  have S := St.start w
  refine seq_list (fun K1 hK1 => ?_)
  refine list_box H rfl S rfl rfl ?_; clear H a S; intro b2 _ a hb2 hbw2 S H
  refine list_does H rfl (does_assign rfl) ?_; clear H a; intro a H
  refine list_does H rfl (does_assign rfl) ?_; clear H a; intro a H
  refine hK1 _ _ ?_
  clear hK1 K1
  replace H := H.keep [1, 2] rfl
  refine seq_list (fun K2 hK2 => ?_)
  refine list_does H rfl (by first | exact does_loadBox agg_62 sz_62 rfl S (i := 0) rfl rfl) ?_; clear H a; intro a H
  refine list_does H rfl (does_move rfl) ?_; clear H a; intro a H
  refine list_call H rfl rfl Try.func71 rfl rfl (chain_first rates pwn ptn pag RA rcp l A cp 77 _ Prod.fst _ (hr.now S) hrn (hl.now S) hn Try.func77 rfl rfl (fun a b w' => chain_Surely_1 a b w')) ?_; clear H a
  rintro _ _ a ⟨rfl, S2⟩ H
  replace S := S.call S2; clear S2
  refine list_does H rfl (does_extract rfl rfl) ?_; clear H a; intro a H
  refine list_does H rfl (does_extract rfl rfl) ?_; clear H a; intro a H
  refine list_does H rfl (does_assign rfl) ?_; clear H a; intro a H
  refine list_does H rfl (does_assign rfl) ?_; clear H a; intro a H
  refine hK2 _ _ ?_
  clear hK2 K2
  refine wp_ret ?_
  refine ret2 (fn := Try.f47) rfl H rfl rfl ?_
  exact ⟨rfl, (S.sel [] rfl rfl)⟩

end Go.Proofs.Ytlejjfhgfajoiaa
