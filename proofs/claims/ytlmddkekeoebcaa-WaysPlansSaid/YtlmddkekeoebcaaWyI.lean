/- WyI. Printed by gen.py. -/
import Derived.Test.YtlmddkekeoebcaaWyH
import Derived.Test.YtlmddkekeoebcaaE4
namespace Go.Proofs.Ytlmddkekeoebcaa
open Go.RowKit
set_option linter.unusedVariables false
set_option linter.unusedSimpArgs false
set_option maxRecDepth 100000
set_option maxHeartbeats 4000000


theorem sumI_bd {l : List Int} (h : ∀ k, k < l.length → 0 ≤ l.getD k 0 ∧ l.getD k 0 ≤ 1000) : ∀ k, k ≤ l.length → 0 ≤ sumI l k ∧ sumI l k ≤ 1000 * k := by
  intro k
  induction k with
  | zero => intro _; simp [sumI, sm]
  | succ k ih =>
    intro hk
    have h1 := ih (by omega)
    have h2 := h k (by omega)
    unfold sumI at *
    rw [sm]
    push_cast
    omega
def clearV (t : Nat) : Value := if t < 61 then .tuple #[.int .i64 (t : Int), .int .i64 0] else .tuple #[.int .i64 0, .int .i64 3]
theorem res_snoc {f : Nat → Nat} {n t : Nat} : ∀ k j, k < n + 1 → j < 1 → f n = t → capp n (ncl f) (fun k' j => ([[Value.int .i64 (t : Int)]].getD k' []).getD j undef) k j = ncl f k j := by
  intro k j hk hj hf
  have : j = 0 := by omega
  subst this
  unfold capp ncl
  by_cases h : k < n
  · rw [if_pos h]
  · have e : k = n := by omega
    subst e
    rw [if_neg h, Nat.sub_self, hf]
    rfl


theorem ways_lay2 (P T : Nat) (ps : List Psg) (PA : Option Addr) (pc : Nat) (xs : List Int) (XA : Option Addr) (xc : Nat) (out : Int) (pe : List Int) (BA : Option Addr) (bc : Nat) (w : World) (hps : InS w noF 7 PA ps.length (pcell ps)) (hpn : ps.length ≤ 9223372036854775807) (hxs : InS w noF 1 XA xs.length (icl xs)) (hxn : xs.length ≤ 9223372036854775807) (hpe : InS w noF 1 BA pe.length (icl pe)) (hpl : pe.length = P) (hV : StV P ps xs) (hou : 0 ≤ out ∧ out ≤ 4095) (hpp : ∀ k, k < pe.length → 0 ≤ pe.getD k 0 ∧ pe.getD k 0 ≤ 1000) (hT : T ≤ 60) :
    Calls Try.prog 66 [.agg [.int .i64 (P : Int), .slice PA ps.length pc, .slice XA xs.length xc].toArray, .int .i64 out, .slice BA pe.length bc, .int .i64 (T : Int)].toArray w (Ret fun u w' => ∃ b31 EA A' c', u = .pointer (some ⟨b31, 0, none⟩) ∧ St w noF [boxM b31 104 [.int .i64 (P : Int), .slice PA ps.length pc, .slice XA xs.length xc, .int .i64 (T : Int), .slice EA (layN P T pe xs (hds out xs ps)).k (layN P T pe xs (hds out xs ps)).k, .int .i64 (((P * (T + 1)) : Nat) : Int), .int .i64 (((P * (T + 1)) + 1 : Nat) : Int)], ownM 105 1 EA (layN P T pe xs (hds out xs ps)).k (layN P T pe xs (hds out xs ps)).k (hdc A' (layN P T pe xs (hds out xs ps)).n c'), ragM 107 7 (fun q => q < (layN P T pe xs (hds out xs ps)).k) A' (layN P T pe xs (hds out xs ps)).n c' (edgeC (layN P T pe xs (hds out xs ps)) (layT P T pe xs (hds out xs ps)).room (layT P T pe xs (hds out xs ps)).mv)] w') := by
  have h := ways_lay P T ps PA pc xs XA xc out pe BA bc w hps hpn hxs hxn (fun k hk h3 => by have := psgOk_iff.1 (hV.pas k hk); omega) hou.1 hpe hpl (by have := hV.size; omega) hT hV.size.2.2 (hds_ok hV)
  refine ret_imp h fun u w' ⟨b31, EA, A', c', h1, S⟩ => ⟨b31, EA, A', c', h1, ?_⟩
  rw [tcell_edge (joins (jAll P T pe xs (hds out xs ps))) (P * (T + 1) + 2)] at S
  exact S


theorem ways_sum (pe : List Int) (BA : Option Addr) (bc : Nat) (w : World) (hpe : InS w noF 1 BA pe.length (icl pe)) (hpp : ∀ k, k < pe.length → 0 ≤ pe.getD k 0 ∧ pe.getD k 0 ≤ 1000) (hpn : pe.length ≤ 1000) :
    Calls Try.prog 93 [.slice BA pe.length bc].toArray w (Ret (fun v w' => v = .int .i64 (sumI pe pe.length) ∧ St w noF [] w')) := by
 refine enter Try.func93 rfl Try.ntmps93 rfl (fun a H => ?_)
 have S := St.start w
 refine sS H fun K1 k1=>sr 1 rfl <| sE ?_;clear H a;intro a H
 refine k1 _ ?_;clear k1 K1
 refine sS H fun K2 k2=>sr 1 rfl <| sE ?_;clear H a;intro a H
 refine k2 _ ?_;clear k2 K2
 refine wp_seq_k fun K3 k3 => ?_
 refine sS H fun K4 k4=>sr 1 rfl <| sL sl_23 rfl <| sr 1 rfl <| sE ?_;clear H a;intro a H
 refine k4 _ ?_;clear k4 K4
 refine wp_block ?_
 refine loop_st (X := Nat) (R0 := _) [6, 7] H rfl (fun k => [(3, .int .i64 (sumI pe k)), (8, .int .i64 (k : Int))]) (fun k => []) (fun g k => k ≤ pe.length ∧ g + k = pe.length) (pe.length) 0 ?_ (S.sel [] rfl rfl) (H.keep [3, 8, 6, 7] rfl) ?_
 · exact ⟨by omega, by omega⟩
 clear H S a
 intro g1 x1 a w1 hp S H K5 k5
 obtain ⟨k, rfl⟩ : ∃ y, y = x1 := ⟨_, rfl⟩
 refine sS H fun K6 k6=>sr 1 rfl <| sE ?_;clear H a;intro a H
 refine k6 _ ?_;clear k6 K6
 refine wp_seq_k fun K7 k7 => ?_
 refine condL H rfl (fun hc1 => ?_) (fun hc1 => ?_)
 ·skip
  refine wp_skip ?_
  refine k7 _ _ ?_
  refine wp_seq_k fun K8 k8 => ?_
  refine wp_block ?_
  refine sS H fun K9 k9=>si sl_23 sz_3 rfl rfl (hpe.adr (by omega)) (by omega) <| slm one_3 rfl (hpe.rd S (by omega) (by omega)) <| sr 1 rfl <| sE ?_;clear H a;intro a H
  refine k9 _ ?_;clear k9 K9
  have hsb := sumI_bd hpp k (by omega); have hsk := hpp k (by omega)
  refine sO H <| sr 2 rfl <| sd (does_add rfl rfl (by unfold i64ok; omega)) <| sr 1 rfl <| sE ?_;clear H a;intro a H
  refine k8 _ _ ?_
  replace H := H.keep [3, 6, 7, 8] rfl
  refine sO H <| sd (does_add rfl rfl (by unfold i64ok; omega)) <| sr 1 rfl <| sE ?_;clear H a;intro a H
  exact k5 (g1 - 1) (k + 1) a _ (by omega) (⟨by omega, by omega⟩) (S.sel [] rfl rfl) (H.keep [3, 8, 6, 7] rfl)
 refine wp_exit ?_
 refine k3 _ _ ?_
 refine sS H fun K12 k12=>sr 2 rfl <| sE ?_;clear H a;intro a H
 refine k12 _ ?_;clear k12 K12
 refine wp_ret ?_
 refine ret1 (fn := Try.f93) rfl H rfl ?_
 have hk9 : k = pe.length := by omega
 subst hk9
 exact ⟨rfl, (S.sel [] rfl rfl)⟩

theorem ways_all (P T : Nat) (ps : List Psg) (PA : Option Addr) (pc : Nat) (xs : List Int) (XA : Option Addr) (xc : Nat) (out : Int) (pe : List Int) (BA : Option Addr) (bc : Nat) (w : World) (hps : InS w noF 7 PA ps.length (pcell ps)) (hpn : ps.length ≤ 9223372036854775807) (hxs : InS w noF 1 XA xs.length (icl xs)) (hxn : xs.length ≤ 9223372036854775807) (hpe : InS w noF 1 BA pe.length (icl pe)) (hpl : pe.length = P) (hV : StV P ps xs) (hou : 0 ≤ out ∧ out ≤ 4095) (hpp : ∀ k, k < pe.length → 0 ≤ pe.getD k 0 ∧ pe.getD k 0 ≤ 1000) (hT : T ≤ 60) :
    Calls Try.prog 77 [.agg [.int .i64 (P : Int), .slice PA ps.length pc, .slice XA xs.length xc].toArray, .int .i64 out, .slice BA pe.length bc, .int .i64 (T : Int)].toArray w (Ret (fun u w' => u = .bool (decide (mfv P T pe xs (hds out xs ps) = sumI pe pe.length)) ∧ St w noF [] w')) := by
 have hO9 := lay_ok (T := T) (out := out) hV hpp
 have hC : P * (T + 1) ≤ 10 * 61 := Nat.mul_le_mul (by have := hV.size; omega) (by omega)
 refine enter Try.func77 rfl Try.ntmps77 rfl (fun a H => ?_)
 have S := St.start w
 refine seq_list fun K1 k1 => ?_
 refine list_box H rfl S rfl rfl ?_;clear H a S;intro b4 _ a hb4 hbw4 S H
 refine ls 1 H <| sr 1 rfl <| sE ?_;clear H a;intro a H
 refine k1 _ _ ?_;clear k1 K1
 replace H := H.keep [1, 2, 3, 4] rfl
 refine seq_list fun K2 k2 => ?_
 refine ls 4 H <| sd ((does_loadBox agg_25 sz_25 rfl S (i := 0) rfl rfl)) <| sr 3 rfl <| sE ?_;clear H a;intro a H
 refine list_call H rfl rfl Try.func66 rfl rfl (ways_lay2 P T ps PA pc xs XA xc out pe BA bc _ (hps.now S) hpn (hxs.now S) hxn (hpe.now S) hpl hV hou hpp hT) ?_;clear H a
 rintro _ _ a ⟨b31, EA, A', c', rfl, S2⟩ H
 replace S := S.call S2;clear S2
 have S1 := (S.sel [0, 1, 2] rfl rfl)
 refine list_call H rfl rfl Try.func67 rfl rfl (net_fill (layN P T pe xs (hds out xs ps)) (layT P T pe xs (hds out xs ps)).room (layT P T pe xs (hds out xs ps)).mv b31 (P : Int) (T : Int) _ _ EA A' c' (P * (T + 1)) ((P * (T + 1)) + 1) _ _ S1.startR hO9.wf hO9.ok (by show _ < P * (T + 1) + 2; omega) (by show _ < P * (T + 1) + 2; omega) (by omega) (by show P * (T + 1) + 2 ≤ _; omega) (by have := hO9.beg; have := hV.size; omega)) ?_;clear H a
 rintro _ _ a ⟨v, r, rfl, hF, h0v, ⟨L, hLv, hLx⟩, S2⟩ H
 replace S := (S.sel [0, 1, 2, 3] rfl rfl).callR (M := [_, _, _]) S2; clear S1 S2
 refine ls 1 H <| sr 1 rfl <| sE ?_;clear H a;intro a H
 refine list_call H rfl rfl Try.func93 rfl rfl (ways_sum pe BA bc _ (hpe.now S) hpp (by have := hV.size; omega)) ?_;clear H a
 rintro _ _ a ⟨rfl, S2⟩ H
 replace S := S.call S2;clear S2
 refine ls 2 H <| sr 2 rfl <| sE ?_;clear H a;intro a H
 refine k2 _ _ ?_;clear k2 K2
 refine wp_ret ?_
 refine ret1 (fn := Try.f77) rfl H rfl ?_
 have hE : EndP P T pe xs (hds out xs ps) v r L := ⟨hF, h0v, hLv, hLx⟩
 rw [mfv_eq hO9 hE]
 exact ⟨rfl, (S.sel [] rfl rfl)⟩

theorem ways_Left (pl : Int) (ps : List Psg) (PA : Option Addr) (pc : Nat) (xs : List Int) (XA : Option Addr) (xc : Nat) (out : Int) (pe : List Int) (BA : Option Addr) (bc : Nat) (T0 : Int) (w : World) (hps : InS w noF 7 PA ps.length (pcell ps)) (hpn : ps.length ≤ 9223372036854775807) (hxs : InS w noF 1 XA xs.length (icl xs)) (hxn : xs.length ≤ 9223372036854775807) (hpe : InS w noF 1 BA pe.length (icl pe)) (hpen : pe.length ≤ 9223372036854775807) :
    Calls Try.prog 30 [.agg [.int .i64 pl, .slice PA ps.length pc, .slice XA xs.length xc].toArray, .int .i64 out, .slice BA pe.length bc, .int .i64 T0].toArray w (Ret (fun u w' => (leaveE pl ps xs out pe T0 ≠ 0 ∧ u = .tuple #[.int .i64 0, .int .i64 (leaveE pl ps xs out pe T0)] ∧ St w noF [] w') ∨ (leaveE pl ps xs out pe T0 = 0 ∧ u = .tuple #[.int .i64 (mfv pl.toNat T0.toNat pe xs (hds out xs ps)), .int .i64 0] ∧ St w noF [] w'))) := by
 refine enter Try.func30 rfl Try.ntmps30 rfl (fun a H => ?_)
 have S := St.start w
 refine seq_list fun K1 k1 => ?_
 refine list_box H rfl S rfl rfl ?_;clear H a S;intro b4 _ a hb4 hbw4 S H
 refine ls 2 H <| sr 2 rfl <| sE ?_;clear H a;intro a H
 refine k1 _ _ ?_;clear k1 K1
 refine wp_seq_k fun K2 k2 => ?_
 refine seq_list fun K3 k3 => ?_
 refine ls 4 H <| sd ((does_loadBox agg_25 sz_25 rfl S (i := 0) rfl rfl)) <| sr 3 rfl <| sE ?_;clear H a;intro a H
 refine list_call H rfl rfl Try.func65 rfl rfl (ways_leaving pl ps PA pc xs XA xc out pe BA bc T0 _ (hps.now S) hpn (hxs.now S) hxn (hpe.now S) hpen) ?_;clear H a
 rintro _ _ a ⟨rfl, S2⟩ H
 replace S := S.call S2;clear S2
 refine ls 1 H <| sr 1 rfl <| sE ?_;clear H a;intro a H
 refine k3 _ _ ?_;clear k3 K3
 replace H := H.keep [1, 2, 3, 4, 10] rfl
 refine sS H fun K4 k4=>sr 2 rfl <| sE ?_;clear H a;intro a H
 refine k4 _ ?_;clear k4 K4
 refine condN H rfl (fun hc1 => ?_) (fun hc1 => ?_)
 ·skip
  refine sS H fun K5 k5=>sr 3 rfl <| sE ?_;clear H a;intro a H
  refine k5 _ ?_;clear k5 K5
  refine wp_ret ?_
  refine ret2 (fn := Try.f30) rfl H rfl rfl ?_
  exact .inl ⟨hc1, rfl, (S.sel [] rfl rfl)⟩
 obtain ⟨hst, hou, hcr, hti⟩ := leaveE_ok hc1
 have hV0 := st_valid hst
 obtain ⟨P, rfl⟩ : ∃ P : Nat, pl = P := ⟨pl.toNat, by have := hV0.size; omega⟩
 have hV := hV0
 obtain ⟨hpp, hpl'⟩ := crowd_ok hcr
 have hpl : pe.length = P := by omega
 obtain ⟨T, rfl⟩ : ∃ T : Nat, T0 = T := ⟨T0.toNat, by omega⟩
 have hT : T ≤ 60 := by omega
 have hO9 := lay_ok (T := T) (out := out) hV hpp
 have hC : P * (T + 1) ≤ 10 * 61 := Nat.mul_le_mul (by have := hV.size; omega) (by omega)
 refine wp_skip ?_
 refine k2 _ _ ?_
 replace H := H.keep [1, 2, 3, 4] rfl
 refine seq_list fun K6 k6 => ?_
 refine ls 4 H <| sd ((does_loadBox agg_25 sz_25 rfl S (i := 0) rfl rfl)) <| sr 3 rfl <| sE ?_;clear H a;intro a H
 refine list_call H rfl rfl Try.func66 rfl rfl (ways_lay2 P T ps PA pc xs XA xc out pe BA bc _ (hps.now S) hpn (hxs.now S) hxn (hpe.now S) hpl hV hou hpp hT) ?_;clear H a
 rintro _ _ a ⟨b31, EA, A', c', rfl, S2⟩ H
 replace S := S.call S2;clear S2
 have S1 := (S.sel [0, 1, 2] rfl rfl)
 refine list_call H rfl rfl Try.func67 rfl rfl (net_fill (layN P T pe xs (hds out xs ps)) (layT P T pe xs (hds out xs ps)).room (layT P T pe xs (hds out xs ps)).mv b31 (P : Int) (T : Int) _ _ EA A' c' (P * (T + 1)) ((P * (T + 1)) + 1) _ _ S1.startR hO9.wf hO9.ok (by show _ < P * (T + 1) + 2; omega) (by show _ < P * (T + 1) + 2; omega) (by omega) (by show P * (T + 1) + 2 ≤ _; omega) (by have := hO9.beg; have := hV.size; omega)) ?_;clear H a
 rintro _ _ a ⟨v, r, rfl, hF, h0v, ⟨L, hLv, hLx⟩, S2⟩ H
 replace S := (S.sel [0, 1, 2, 3] rfl rfl).callR (M := [_, _, _]) S2; clear S1 S2
 refine ls 2 H <| sr 2 rfl <| sE ?_;clear H a;intro a H
 refine k6 _ _ ?_;clear k6 K6
 refine wp_ret ?_
 refine ret2 (fn := Try.f30) rfl H rfl rfl ?_
 have hE : EndP P T pe xs (hds out xs ps) v r L := ⟨hF, h0v, hLv, hLx⟩
 rw [Int.toNat_natCast, Int.toNat_natCast, mfv_eq hO9 hE]
 exact .inr ⟨hc1, rfl, (S.sel [] rfl rfl)⟩

theorem ways_Clear (pl : Int) (ps : List Psg) (PA : Option Addr) (pc : Nat) (xs : List Int) (XA : Option Addr) (xc : Nat) (out : Int) (pe : List Int) (BA : Option Addr) (bc : Nat) (w : World) (hps : InS w noF 7 PA ps.length (pcell ps)) (hpn : ps.length ≤ 9223372036854775807) (hxs : InS w noF 1 XA xs.length (icl xs)) (hxn : xs.length ≤ 9223372036854775807) (hpe : InS w noF 1 BA pe.length (icl pe)) (hpen : pe.length ≤ 9223372036854775807) :
    Calls Try.prog 38 [.agg [.int .i64 pl, .slice PA ps.length pc, .slice XA xs.length xc].toArray, .int .i64 out, .slice BA pe.length bc].toArray w (Ret (fun u w' => (leaveE pl ps xs out pe 0 ≠ 0 ∧ u = .tuple #[.int .i64 0, .int .i64 (leaveE pl ps xs out pe 0)] ∧ St w noF [] w') ∨ (leaveE pl ps xs out pe 0 = 0 ∧ u = clearV (fstB (fun t => decide (mfv pl.toNat t pe xs (hds out xs ps) = sumI pe pe.length)) 61) ∧ St w noF [] w'))) := by
 refine enter Try.func38 rfl Try.ntmps38 rfl (fun a H => ?_)
 have S := St.start w
 refine seq_list fun K1 k1 => ?_
 refine list_box H rfl S rfl rfl ?_;clear H a S;intro b3 _ a hb3 hbw3 S H
 refine ls 2 H <| sr 2 rfl <| sE ?_;clear H a;intro a H
 refine k1 _ _ ?_;clear k1 K1
 refine wp_seq_k fun K2 k2 => ?_
 refine seq_list fun K3 k3 => ?_
 refine ls 3 H <| sd ((does_loadBox agg_25 sz_25 rfl S (i := 0) rfl rfl)) <| sr 2 rfl <| sE ?_;clear H a;intro a H
 refine list_call H rfl rfl Try.func65 rfl rfl (ways_leaving pl ps PA pc xs XA xc out pe BA bc 0 _ (hps.now S) hpn (hxs.now S) hxn (hpe.now S) hpen) ?_;clear H a
 rintro _ _ a ⟨rfl, S2⟩ H
 replace S := S.call S2;clear S2
 refine ls 1 H <| sr 1 rfl <| sE ?_;clear H a;intro a H
 refine k3 _ _ ?_;clear k3 K3
 replace H := H.keep [1, 2, 3, 8] rfl
 refine sS H fun K4 k4=>sr 2 rfl <| sE ?_;clear H a;intro a H
 refine k4 _ ?_;clear k4 K4
 refine condN H rfl (fun hc1 => ?_) (fun hc1 => ?_)
 ·skip
  refine sS H fun K5 k5=>sr 3 rfl <| sE ?_;clear H a;intro a H
  refine k5 _ ?_;clear k5 K5
  refine wp_ret ?_
  refine ret2 (fn := Try.f38) rfl H rfl rfl ?_
  exact .inl ⟨hc1, rfl, (S.sel [] rfl rfl)⟩
 obtain ⟨hst, hou, hcr, hti⟩ := leaveE_ok hc1
 have hV0 := st_valid hst
 obtain ⟨P, rfl⟩ : ∃ P : Nat, pl = P := ⟨pl.toNat, by have := hV0.size; omega⟩
 have hV := hV0
 obtain ⟨hpp, hpl'⟩ := crowd_ok hcr
 have hpl : pe.length = P := by omega
 refine wp_skip ?_
 refine k2 _ _ ?_
 refine wp_seq_k fun K6 k6 => ?_
 refine sS H fun K7 k7=>sr 1 rfl <| sE ?_;clear H a;intro a H
 refine k7 _ ?_;clear k7 K7
 refine wp_block ?_
 refine loop_st (X := Nat) (R0 := _) [1, 2, 3] H rfl (fun t => [(17, .int .i64 (t : Int))]) (fun t => []) (fun g t => t ≤ 61 ∧ g + t = 61 ∧ ∀ q, q < t → decide (mfv P q pe xs (hds out xs ps) = sumI pe pe.length) = false) (61) 0 ?_ (S.sel [0] rfl rfl) (H.keep [17, 1, 2, 3] rfl) ?_
 · exact ⟨by omega, by omega, fun q hq => absurd hq (Nat.not_lt_zero q)⟩
 clear H S a
 intro g1 x1 a w1 hp S H K8 k8
 obtain ⟨t, rfl⟩ : ∃ y, y = x1 := ⟨_, rfl⟩
 refine sS H fun K9 k9=>sr 1 rfl <| sE ?_;clear H a;intro a H
 refine k9 _ ?_;clear k9 K9
 refine wp_seq_k fun K10 k10 => ?_
 refine condL H rfl (fun hc2 => ?_) (fun hc2 => ?_)
 ·skip
  refine wp_skip ?_
  refine k10 _ _ ?_
  refine wp_seq_k fun K11 k11 => ?_
  refine wp_block ?_
  refine sS H fun K12 k12=>sr 2 rfl <| sE ?_;clear H a;intro a H
  refine k12 _ ?_;clear k12 K12
  refine seq_list fun K13 k13 => ?_
  refine ls 4 H <| sd ((does_loadBox agg_25 sz_25 rfl S (i := 0) rfl rfl)) <| sr 3 rfl <| sE ?_;clear H a;intro a H
  refine list_call H rfl rfl Try.func77 rfl rfl (ways_all P t ps PA pc xs XA xc out pe BA bc _ (hps.now S) hpn (hxs.now S) hxn (hpe.now S) hpl hV hou hpp (by omega)) ?_;clear H a
  rintro _ _ a ⟨rfl, S2⟩ H
  replace S := S.call S2;clear S2
  refine k13 _ _ ?_;clear k13 K13
  refine cond_ H rfl (fun hc3 => ?_) (fun hc3 => ?_)
  ·skip
   try simp only [o1,o2,o3,o4,o5,o6,o7,o8,o9,oa] at hc3
   replace H := H.keep [9] rfl
   refine sS H fun K14 k14=>sr 3 rfl <| sE ?_;clear H a;intro a H
   refine k14 _ ?_;clear k14 K14
   refine wp_ret ?_
   refine ret2 (fn := Try.f38) rfl H rfl rfl ?_
   refine .inr ⟨hc1, ?_, (S.sel [] rfl rfl)⟩
   rw [Int.toNat_natCast, fst_at hp.2.2 (decide_eq_true hc3) (by omega)]
   unfold clearV
   rw [if_pos (by omega)]
  try simp only [o1,o2,o3,o4,o5,o6,o7,o8,o9,oa] at hc3
  refine wp_skip ?_
  refine k11 _ _ ?_
  refine sO H <| sd (does_add rfl rfl (by unfold i64ok; omega)) <| sr 1 rfl <| sE ?_;clear H a;intro a H
  exact k8 (g1 - 1) (t + 1) a _ (by omega) (⟨by omega, by omega, fun q hq => by
    by_cases e : q = t
    · subst e; exact decide_eq_false hc3
    · exact hp.2.2 q (by omega)⟩) (S.sel [0] rfl rfl) (H.keep [17, 1, 2, 3] rfl)
 refine wp_exit ?_
 refine k6 _ _ ?_
 refine sS H fun K16 k16=>sr 2 rfl <| sE ?_;clear H a;intro a H
 refine k16 _ ?_;clear k16 K16
 refine wp_ret ?_
 refine ret2 (fn := Try.f38) rfl H rfl rfl ?_
 refine .inr ⟨hc1, ?_, (S.sel [] rfl rfl)⟩
 rw [Int.toNat_natCast, fst_none (fun q hq => hp.2.2 q (by omega))]
 rfl

theorem ways_Cut (pl : Int) (ps : List Psg) (PA : Option Addr) (pc : Nat) (xs : List Int) (XA : Option Addr) (xc : Nat) (out : Int) (pe : List Int) (BA : Option Addr) (bc : Nat) (T0 : Int) (w : World) (hps : InS w noF 7 PA ps.length (pcell ps)) (hpn : ps.length ≤ 9223372036854775807) (hxs : InS w noF 1 XA xs.length (icl xs)) (hxn : xs.length ≤ 9223372036854775807) (hpe : InS w noF 1 BA pe.length (icl pe)) (hpen : pe.length ≤ 9223372036854775807) :
    Calls Try.prog 32 [.agg [.int .i64 pl, .slice PA ps.length pc, .slice XA xs.length xc].toArray, .int .i64 out, .slice BA pe.length bc, .int .i64 T0].toArray w (Ret (fun u w' => (leaveE pl ps xs out pe T0 ≠ 0 ∧ u = .tuple #[.slice none 0 0, .int .i64 (leaveE pl ps xs out pe T0)] ∧ St w noF [] w') ∨ (leaveE pl ps xs out pe T0 = 0 ∧ ∃ A c, u = .tuple #[.slice A pl.toNat c, .int .i64 0] ∧ St w noF [ownM 3 1 A pl.toNat c (ncl (mfc pl.toNat T0.toNat pe xs (hds out xs ps)))] w'))) := by
 refine enter Try.func32 rfl Try.ntmps32 rfl (fun a H => ?_)
 have S := St.start w
 refine seq_list fun K1 k1 => ?_
 refine list_box H rfl S rfl rfl ?_;clear H a S;intro b4 _ a hb4 hbw4 S H
 refine ls 2 H <| sr 2 rfl <| sE ?_;clear H a;intro a H
 refine k1 _ _ ?_;clear k1 K1
 refine wp_seq_k fun K2 k2 => ?_
 refine seq_list fun K3 k3 => ?_
 refine ls 4 H <| sd ((does_loadBox agg_25 sz_25 rfl S (i := 0) rfl rfl)) <| sr 3 rfl <| sE ?_;clear H a;intro a H
 refine list_call H rfl rfl Try.func65 rfl rfl (ways_leaving pl ps PA pc xs XA xc out pe BA bc T0 _ (hps.now S) hpn (hxs.now S) hxn (hpe.now S) hpen) ?_;clear H a
 rintro _ _ a ⟨rfl, S2⟩ H
 replace S := S.call S2;clear S2
 refine ls 1 H <| sr 1 rfl <| sE ?_;clear H a;intro a H
 refine k3 _ _ ?_;clear k3 K3
 replace H := H.keep [1, 2, 3, 4, 10] rfl
 refine sS H fun K4 k4=>sr 2 rfl <| sE ?_;clear H a;intro a H
 refine k4 _ ?_;clear k4 K4
 refine condN H rfl (fun hc1 => ?_) (fun hc1 => ?_)
 ·skip
  refine sS H fun K5 k5=>sr 3 rfl <| sE ?_;clear H a;intro a H
  refine k5 _ ?_;clear k5 K5
  refine wp_ret ?_
  refine ret2 (fn := Try.f32) rfl H rfl rfl ?_
  exact .inl ⟨hc1, rfl, (S.sel [] rfl rfl)⟩
 obtain ⟨hst, hou, hcr, hti⟩ := leaveE_ok hc1
 have hV0 := st_valid hst
 obtain ⟨P, rfl⟩ : ∃ P : Nat, pl = P := ⟨pl.toNat, by have := hV0.size; omega⟩
 have hV := hV0
 obtain ⟨hpp, hpl'⟩ := crowd_ok hcr
 have hpl : pe.length = P := by omega
 obtain ⟨T, rfl⟩ : ∃ T : Nat, T0 = T := ⟨T0.toNat, by omega⟩
 have hT : T ≤ 60 := by omega
 have hO9 := lay_ok (T := T) (out := out) hV hpp
 have hC : P * (T + 1) ≤ 10 * 61 := Nat.mul_le_mul (by have := hV.size; omega) (by omega)
 have hP10 : 1 ≤ P ∧ P ≤ 10 := ⟨by have := hV.size; omega, by have := hV.size; omega⟩
 refine wp_skip ?_
 refine k2 _ _ ?_
 replace H := H.keep [1, 2, 3, 4] rfl
 refine seq_list fun K6 k6 => ?_
 refine ls 4 H <| sd ((does_loadBox agg_25 sz_25 rfl S (i := 0) rfl rfl)) <| sr 3 rfl <| sE ?_;clear H a;intro a H
 refine list_call H rfl rfl Try.func66 rfl rfl (ways_lay2 P T ps PA pc xs XA xc out pe BA bc _ (hps.now S) hpn (hxs.now S) hxn (hpe.now S) hpl hV hou hpp hT) ?_;clear H a
 rintro _ _ a ⟨b31, EA, A', c', rfl, S2⟩ H
 replace S := S.call S2;clear S2
 refine ls 1 H <| sr 1 rfl <| sE ?_;clear H a;intro a H
 refine k6 _ _ ?_;clear k6 K6
 refine seq_list fun K7 k7 => ?_
 refine ls 1 H <| sr 1 rfl <| sE ?_;clear H a;intro a H
 have S1 := (S.sel [0, 1, 2] rfl rfl)
 refine list_call H rfl rfl Try.func67 rfl rfl (net_fill (layN P T pe xs (hds out xs ps)) (layT P T pe xs (hds out xs ps)).room (layT P T pe xs (hds out xs ps)).mv b31 (P : Int) (T : Int) _ _ EA A' c' (P * (T + 1)) ((P * (T + 1)) + 1) _ _ S1.startR hO9.wf hO9.ok (by show _ < P * (T + 1) + 2; omega) (by show _ < P * (T + 1) + 2; omega) (by omega) (by show P * (T + 1) + 2 ≤ _; omega) (by have := hO9.beg; have := hV.size; omega)) ?_;clear H a
 rintro _ _ a ⟨v, r, rfl, hF, h0v, ⟨L, hLv, hLx⟩, S2⟩ H
 replace S := (S.sel [0, 1, 2, 3] rfl rfl).callR (M := [_, _, _]) S2; clear S1 S2
 refine k7 _ _ ?_;clear k7 K7
 replace H := H.keep [3, 4, 11] rfl
 refine seq_list fun K8 k8 => ?_
 refine ls 1 H <| sr 1 rfl <| sE ?_;clear H a;intro a H
 have S1 := (S.sel [0, 1, 2] rfl rfl)
 refine list_call H rfl rfl Try.func68 rfl rfl (net_levels (layN P T pe xs (hds out xs ps)) r (layT P T pe xs (hds out xs ps)).mv b31 (P : Int) (T : Int) _ _ EA A' c' (P * (T + 1)) ((P * (T + 1)) + 1) _ _ S1.startR hO9.wf (hF.ok hO9.ok) (by show _ < P * (T + 1) + 2; omega) (by show _ < P * (T + 1) + 2; omega) (by omega) (by show P * (T + 1) + 2 ≤ _; omega)) ?_;clear H a
 rintro _ _ a ⟨LA, L2, rfl, hL2, S2⟩ H
 replace S := (S.sel [0, 1, 2, 3] rfl rfl).callR (M := [_, _, _]) S2; clear S1 S2
 have hk2 : (layN P T pe xs (hds out xs ps)).k = P * (T + 1) + 2 := rfl
 have hL2x : L2 (P * (T + 1) + 1) < 0 := by
   have h9 := hL2.least (S := reached L) (by unfold reached; rw [hLv.b0]; rfl) (fun u hu h1 j hj hr => by unfold reached at h1 ⊢; rw [decide_eq_true_eq] at h1 ⊢; exact hLv.cl u hu h1 j hj hr) (P * (T + 1) + 1) (by omega)
   unfold reached at h9
   rw [decide_eq_true_eq] at h9
   omega
 have hE : EndP P T pe xs (hds out xs ps) v r L2 := ⟨hF, h0v, hL2, hL2x⟩
 refine ls 1 H <| sr 1 rfl <| sE ?_;clear H a;intro a H
 refine k8 _ _ ?_;clear k8 K8
 refine sS H fun K9 k9=>sr 1 rfl <| sE ?_;clear H a;intro a H
 refine k9 _ ?_;clear k9 K9
 refine wp_seq_k fun K10 k10 => ?_
 refine sS H fun K11 k11=>sf fo_25_0 rfl <| sl S 4 one_3 rfl rfl rfl <| sr 1 rfl <| sE ?_;clear H a;intro a H
 refine k11 _ ?_;clear k11 K11
 refine wp_block ?_
 replace S := S.newNil 3 1 (ncl (mfc P T pe xs (hds out xs ps)))
 refine loop_st (X := Nat × Option Addr × Nat) (R0 := _) [3, 11, 12, 34] H rfl (fun ⟨p, A9, c9⟩ => [(13, .slice A9 p c9), (35, .int .i64 (p : Int))]) (fun ⟨p, A9, c9⟩ => [ownM 3 1 A9 p c9 (ncl (mfc P T pe xs (hds out xs ps)))]) (fun g ⟨p, A9, c9⟩ => p ≤ P ∧ g + p = P) (P) (0, none, 0) ?_ (S.sel [0, 1, 2, 3, 4, 5] rfl rfl) (H.keep [13, 35, 3, 11, 12, 34] rfl) ?_
 · exact ⟨by omega, by omega⟩
 clear H S a
 intro g1 x1 a w1 hp S H K12 k12
 obtain ⟨p, A9, c9⟩ := x1
 dsimp only at hp S H
 have hpP := hp
 refine sS H fun K13 k13=>sr 1 rfl <| sE ?_;clear H a;intro a H
 refine k13 _ ?_;clear k13 K13
 refine wp_seq_k fun K14 k14 => ?_
 refine condL H rfl (fun hc2 => ?_) (fun hc2 => ?_)
 ·skip
  refine wp_skip ?_
  refine k14 _ _ ?_
  refine wp_seq_k fun K15 k15 => ?_
  refine wp_block ?_
  refine sS H fun K16 k16=>sr 2 rfl <| sE ?_;clear H a;intro a H
  refine k16 _ ?_;clear k16 K16
  refine sS H fun K17 k17=>sr 1 rfl <| sE ?_;clear H a;intro a H
  refine k17 _ ?_;clear k17 K17
  refine wp_seq_k fun K18 k18 => ?_
  refine wp_block ?_
  refine loop_st (X := Nat) (R0 := _) [3, 11, 12, 13, 14, 34, 35] H rfl (fun t => [(15, .int .i64 (t : Int))]) (fun t => []) (fun g t => t ≤ T + 1 ∧ g + t = T + 1 ∧ ∀ q, q < t → decide (0 ≤ L2 (nd P q p)) = false) (T + 1) 0 ?_ (S.sel [0, 1, 2, 3, 4, 5] rfl rfl) (H.keep [15, 3, 11, 12, 13, 14, 34, 35] rfl) ?_
  · exact ⟨by omega, by omega, fun q hq => absurd hq (Nat.not_lt_zero q)⟩
  clear H S a
  intro g2 x2 a w2 hp S H K19 k19
  obtain ⟨t, rfl⟩ : ∃ y, y = x2 := ⟨_, rfl⟩
  refine wp_seq_k fun K20 k20 => ?_
  replace H := H.keep [3, 11, 12, 13, 14, 15, 34, 35] rfl
  refine seq_list fun K21 k21 => ?_
  refine ls 4 H <| sr 4 rfl <| sE ?_;clear H a;intro a H
  apply list_guard (i := 3) (g := 41) (t := 49) (b := true) 8 H S rfl rfl (by kernel_rfl) (by kernel_rfl) rfl rfl
  case h1 =>
   intro hg4
   have hq4 := hg4; try simp only [o1,o2,o3,o4,o5,o6,o7,o8,o9,oa] at hq4
   have hndl : nd P t p < (layN P T pe xs (hds out xs ps)).k := by have := nd_lt (P := P) (T := T) (t := t) (p := p) (by omega) (by omega); omega
   refine ls 4 H <| sy hg4 <| sr 1 rfl <| sy hg4 <| sr 1 rfl <| sy hg4 <| sr 1 rfl <| sy hg4 <| sr 1 rfl <| sE ?_;intro a H
   refine list_yes' H rfl rfl (by assumption) ?_
   have S1 := (S.sel [2] rfl rfl)
   refine list_call H rfl rfl Try.func69 rfl rfl (net_nodeN P T ps PA pc xs XA xc b31 EA p t _ _ S1.startR (by omega) (by omega) (by omega)) ?_
   rintro _ _ a ⟨rfl, S2⟩ H
   replace S := (S.sel [2, 0, 1, 3, 4, 5] rfl rfl).callR (M := [_]) S2; clear S1 S2
   refine ls 3 H <| sy hg4 <| si sl_23 sz_3 rfl rfl (ownM.adr S (i := 2) rfl (by omega)) (by omega) <| sy hg4 <| slm one_3 rfl (ownM.rd S (i := 2) rfl hndl (by omega)) <| sy hg4 <| sr 1 rfl <| sE ?_;intro a H
   exact wpList_nil ⟨H.strip 8 rfl rfl, (S.sel [1, 2, 0, 3, 4, 5] rfl rfl)⟩
  clear H a S;intro a _ H S
  refine ls 1 H <| sa rfl rfl rfl <| sE ?_;clear H a;intro a H
  refine k21 _ _ ?_;clear k21 K21
  refine cond_ H rfl (fun hc3 => ?_) (fun hc3 => ?_)
  ·skip
   try simp only [o1,o2,o3,o4,o5,o6,o7,o8,o9,oa] at hc3
   refine wp_skip ?_
   refine k20 _ _ ?_
   refine wp_block ?_
   replace H := H.keep [3, 11, 12, 13, 14, 15, 34, 35] rfl
   refine sO H <| sr 1 rfl <| sd (does_add rfl rfl (by unfold i64ok; omega)) <| sr 1 rfl <| sE ?_;clear H a;intro a H
   exact k19 (g2 - 1) (t + 1) a _ (by omega) (⟨by omega, by omega, fun q hq => by
     by_cases e : q = t
     · subst e; exact decide_eq_false (by omega)
     · exact hp.2.2 q (by omega)⟩) (S.sel [0, 1, 2, 3, 4, 5] rfl rfl) (H.keep [15, 3, 11, 12, 13, 14, 34, 35] rfl)
  try simp only [o1,o2,o3,o4,o5,o6,o7,o8,o9,oa] at hc3
  refine wp_exit ?_
  refine k18 _ _ ?_
  have hcut : cutAt P T L2 p = t := by
    unfold cutAt
    by_cases ht9 : t = T + 1
    · rw [ht9]; exact fst_none (fun q hq => hp.2.2 q (by omega))
    · exact fst_at hp.2.2 (by rw [decide_eq_true_eq]; omega) (by omega)
  refine one_list ?_
  refine ls 2 H <| sr 2 rfl <| sE ?_;clear H a;intro a H
  refine list_build' H rfl S sl_23 sz_3 ze_3 rfl rfl rfl rfl rfl rfl rfl rfl rfl ?_;clear H a S;intro A1 _ a hA1 S H
  refine list_append H rfl S sl_23 sz_3 ze_3 by_3 rfl rfl (i := 1) rfl rfl rfl (ownM.inS S (i := 0) rfl) (one_vs (one rfl)) (by omega) (by omega) ?_;clear H a S;intro A2 c2 _ a S H
  replace S := S.recell (i := 1) rfl (cell' := ncl (mfc P T pe xs (hds out xs ps))) (fun k j hk hj => res_snoc k j hk hj (by rw [mfc_eq hO9 hE (by omega)]; exact hcut))
  refine ls 1 H <| sr 1 rfl <| sE ?_;clear H a;intro a H
  refine k15 _ _ ?_
  replace H := H.keep [3, 11, 12, 13, 34, 35] rfl
  refine sO H <| sd (does_add rfl rfl (by unfold i64ok; omega)) <| sr 1 rfl <| sE ?_;clear H a;intro a H
  exact k12 (g1 - 1) (p + 1, _, _) a _ (by omega) (⟨by omega, by omega⟩) (S.sel [1, 2, 3, 4, 5, 6] rfl rfl) (H.keep [13, 35, 3, 11, 12, 34] rfl)
 refine wp_exit ?_
 refine k10 _ _ ?_
 refine sS H fun K25 k25=>sr 3 rfl <| sE ?_;clear H a;intro a H
 refine k25 _ ?_;clear k25 K25
 refine wp_ret ?_
 refine ret2 (fn := Try.f32) rfl H rfl rfl ?_
 have hp9 : p = P := by omega
 subst hp9
 rw [Int.toNat_natCast, Int.toNat_natCast]
 exact .inr ⟨hc1, _, _, rfl, (S.sel [0] rfl rfl)⟩

end Go.Proofs.Ytlmddkekeoebcaa
