/- WyI. Printed by gen.py. -/
import Derived.Test.YtopmadlgolnmfaaWyH
import Derived.Test.YtopmadlgolnmfaaE4
namespace Go.Proofs.Ytopmadlgolnmfaa
open Go.RowKit
set_option linter.unusedVariables false
set_option linter.unusedSimpArgs false
set_option maxRecDepth 100000
set_option maxHeartbeats 4000000


theorem sumI_bd {l : List Int} (h : ∀ k, k < l.length → 0 ≤ l.getD k 0 ∧ l.getD k 0 ≤ 1000) : ∀ k, k ≤ l.length → 0 ≤ sumI l k ∧ sumI l k ≤ 1000 * k := by
  intro k
  induction k with
  | zero => intro _; simp [sumI, sm]
  | succ k ih =>
    intro hk
    have h1 := ih (by omega)
    have h2 := h k (by omega)
    unfold sumI at *
    rw [sm]
    push_cast
    omega
theorem ways_lay2 (P T : Nat) (ps : List Psg) (PA : Option Addr) (pc : Nat) (xs : List Int) (XA : Option Addr) (xc : Nat) (out : Int) (pe : List Int) (BA : Option Addr) (bc : Nat) (w : World) (hps : InS w noF 7 PA ps.length (pcell ps)) (hpn : ps.length ≤ 9223372036854775807) (hxs : InS w noF 1 XA xs.length (icl xs)) (hxn : xs.length ≤ 9223372036854775807) (hpe : InS w noF 1 BA pe.length (icl pe)) (hpl : pe.length = P) (hV : StV P ps xs) (hou : 0 ≤ out ∧ out ≤ 4095) (hpp : ∀ k, k < pe.length → 0 ≤ pe.getD k 0 ∧ pe.getD k 0 ≤ 1000) (hT : T ≤ 60) :
    Calls Try.prog 67 [.agg [.int .i64 (P : Int), .slice PA ps.length pc, .slice XA xs.length xc].toArray, .int .i64 out, .slice BA pe.length bc, .int .i64 (T : Int)].toArray w (Ret fun u w' => ∃ b31 EA A' c', u = .pointer (some ⟨b31, 0, none⟩) ∧ St w noF [boxM b31 157 [.int .i64 (P : Int), .slice PA ps.length pc, .slice XA xs.length xc, .int .i64 (T : Int), .slice EA (layN P T pe xs (hds out xs ps)).k (layN P T pe xs (hds out xs ps)).k, .int .i64 (((P * (T + 1)) : Nat) : Int), .int .i64 (((P * (T + 1)) + 1 : Nat) : Int)], ownM 175 1 EA (layN P T pe xs (hds out xs ps)).k (layN P T pe xs (hds out xs ps)).k (hdc A' (layN P T pe xs (hds out xs ps)).n c'), ragM 177 7 (fun q => q < (layN P T pe xs (hds out xs ps)).k) A' (layN P T pe xs (hds out xs ps)).n c' (edgeC (layN P T pe xs (hds out xs ps)) (layT P T pe xs (hds out xs ps)).room (layT P T pe xs (hds out xs ps)).mv)] w') := by
  have h := ways_lay P T ps PA pc xs XA xc out pe BA bc w hps hpn hxs hxn (fun k hk h3 => by have := psgOk_iff.1 (hV.pas k hk); omega) hou.1 hpe hpl (by have := hV.size; omega) hT hV.size.2.2 (hds_ok hV)
  refine w8ret_imp h fun u w' ⟨b31, EA, A', c', h1, S⟩ => ⟨b31, EA, A', c', h1, ?_⟩
  rw [tcell_edge (joins (jAll P T pe xs (hds out xs ps))) (P * (T + 1) + 2)] at S
  exact S


theorem ways_sum (pe : List Int) (BA : Option Addr) (bc : Nat) (w : World) (hpe : InS w noF 1 BA pe.length (icl pe)) (hpp : ∀ k, k < pe.length → 0 ≤ pe.getD k 0 ∧ pe.getD k 0 ≤ 1000) (hpn : pe.length ≤ 1000) :
    Calls Try.prog 69 [.slice BA pe.length bc].toArray w (Ret (fun v w' => v = .int .i64 (sumI pe pe.length) ∧ St w noF [] w')) := by
 refine enter Try.func69 rfl Try.ntmps69 rfl (fun a H => ?_)
 have S := St.start w
 refine sS H fun K1 k1=>sr 1 rfl <| sE ?_;clear H a;intro a H
 refine k1 _ ?_;clear k1 K1
 refine sS H fun K2 k2=>sr 1 rfl <| sE ?_;clear H a;intro a H
 refine k2 _ ?_;clear k2 K2
 refine wp_seq_k fun K3 k3 => ?_
 refine sS H fun K4 k4=>sr 1 rfl <| sL sl_23 rfl <| sr 1 rfl <| sE ?_;clear H a;intro a H
 refine k4 _ ?_;clear k4 K4
 refine wp_block ?_
 refine loop_st (X := Nat) (R0 := _) [6, 7] H rfl (fun k => [(3, .int .i64 (sumI pe k)), (8, .int .i64 (k : Int))]) (fun k => []) (fun g k => k ≤ pe.length ∧ g + k = pe.length) (pe.length) 0 ?_ (S.sel [] rfl rfl) (H.keep [3, 8, 6, 7] rfl) ?_
 · exact ⟨by omega, by omega⟩
 clear H S a
 intro g1 x1 a w1 hp S H K5 k5
 obtain ⟨k, rfl⟩ : ∃ y, y = x1 := ⟨_, rfl⟩
 refine sS H fun K6 k6=>sr 1 rfl <| sE ?_;clear H a;intro a H
 refine k6 _ ?_;clear k6 K6
 refine wp_seq_k fun K7 k7 => ?_
 refine condL H rfl (fun hc1 => ?_) (fun hc1 => ?_)
 ·skip
  refine wp_skip ?_
  refine k7 _ _ ?_
  refine wp_seq_k fun K8 k8 => ?_
  refine wp_block ?_
  refine sS H fun K9 k9=>si sl_23 sz_3 rfl rfl (hpe.adr (by omega)) (by omega) <| slm one_3 rfl (hpe.rd S (by omega) (by omega)) <| sr 1 rfl <| sE ?_;clear H a;intro a H
  refine k9 _ ?_;clear k9 K9
  have hsb := sumI_bd hpp k (by omega); have hsk := hpp k (by omega)
  refine sO H <| sr 2 rfl <| sd (does_add rfl rfl (by unfold i64ok; omega)) <| sr 1 rfl <| sE ?_;clear H a;intro a H
  refine k8 _ _ ?_
  replace H := H.keep [3, 6, 7, 8] rfl
  refine sO H <| sd (does_add rfl rfl (by unfold i64ok; omega)) <| sr 1 rfl <| sE ?_;clear H a;intro a H
  exact k5 (g1 - 1) (k + 1) a _ (by omega) (⟨by omega, by omega⟩) (S.sel [] rfl rfl) (H.keep [3, 8, 6, 7] rfl)
 refine wp_exit ?_
 refine k3 _ _ ?_
 refine sS H fun K12 k12=>sr 2 rfl <| sE ?_;clear H a;intro a H
 refine k12 _ ?_;clear k12 K12
 refine wp_ret ?_
 refine ret1 (fn := Try.f69) rfl H rfl ?_
 have hk9 : k = pe.length := by omega
 subst hk9
 exact ⟨rfl, (S.sel [] rfl rfl)⟩

theorem ways_all (P T : Nat) (ps : List Psg) (PA : Option Addr) (pc : Nat) (xs : List Int) (XA : Option Addr) (xc : Nat) (out : Int) (pe : List Int) (BA : Option Addr) (bc : Nat) (w : World) (hps : InS w noF 7 PA ps.length (pcell ps)) (hpn : ps.length ≤ 9223372036854775807) (hxs : InS w noF 1 XA xs.length (icl xs)) (hxn : xs.length ≤ 9223372036854775807) (hpe : InS w noF 1 BA pe.length (icl pe)) (hpl : pe.length = P) (hV : StV P ps xs) (hou : 0 ≤ out ∧ out ≤ 4095) (hpp : ∀ k, k < pe.length → 0 ≤ pe.getD k 0 ∧ pe.getD k 0 ≤ 1000) (hT : T ≤ 60) :
    Calls Try.prog 43 [.agg [.int .i64 (P : Int), .slice PA ps.length pc, .slice XA xs.length xc].toArray, .int .i64 out, .slice BA pe.length bc, .int .i64 (T : Int)].toArray w (Ret (fun u w' => u = .bool (decide (mfv P T pe xs (hds out xs ps) = sumI pe pe.length)) ∧ St w noF [] w')) := by
 have hO9 := lay_ok (T := T) (out := out) hV hpp
 have hC : P * (T + 1) ≤ 10 * 61 := Nat.mul_le_mul (by have := hV.size; omega) (by omega)
 refine enter Try.func43 rfl Try.ntmps43 rfl (fun a H => ?_)
 have S := St.start w
 refine seq_list fun K1 k1 => ?_
 refine list_box H rfl S rfl rfl ?_;clear H a S;intro b4 _ a hb4 hbw4 S H
 refine ls 1 H <| sr 1 rfl <| sE ?_;clear H a;intro a H
 refine k1 _ _ ?_;clear k1 K1
 replace H := H.keep [1, 2, 3, 4] rfl
 refine seq_list fun K2 k2 => ?_
 refine ls 4 H <| sd ((does_loadBox agg_25 sz_25 rfl S (i := 0) rfl rfl)) <| sr 3 rfl <| sE ?_;clear H a;intro a H
 refine list_call H rfl rfl Try.func67 rfl rfl (ways_lay2 P T ps PA pc xs XA xc out pe BA bc _ (hps.now S) hpn (hxs.now S) hxn (hpe.now S) hpl hV hou hpp hT) ?_;clear H a
 rintro _ _ a ⟨b31, EA, A', c', rfl, S2⟩ H
 replace S := S.call S2;clear S2
 have S1 := (S.sel [0, 1, 2] rfl rfl)
 refine list_call H rfl rfl Try.func68 rfl rfl (net_fill (layN P T pe xs (hds out xs ps)) (layT P T pe xs (hds out xs ps)).room (layT P T pe xs (hds out xs ps)).mv b31 (P : Int) (T : Int) _ _ EA A' c' (P * (T + 1)) ((P * (T + 1)) + 1) _ _ S1.startR hO9.wf hO9.ok (by show _ < P * (T + 1) + 2; omega) (by show _ < P * (T + 1) + 2; omega) (by omega) (by show P * (T + 1) + 2 ≤ _; omega) (by have := hO9.beg; have := hV.size; omega)) ?_;clear H a
 rintro _ _ a ⟨v, r, rfl, hF, h0v, ⟨L, hLv, hLx⟩, S2⟩ H
 replace S := (S.sel [0, 1, 2, 3] rfl rfl).callR (M := [_, _, _]) S2; clear S1 S2
 refine ls 1 H <| sr 1 rfl <| sE ?_;clear H a;intro a H
 refine list_call H rfl rfl Try.func69 rfl rfl (ways_sum pe BA bc _ (hpe.now S) hpp (by have := hV.size; omega)) ?_;clear H a
 rintro _ _ a ⟨rfl, S2⟩ H
 replace S := S.call S2;clear S2
 refine ls 2 H <| sr 2 rfl <| sE ?_;clear H a;intro a H
 refine k2 _ _ ?_;clear k2 K2
 refine wp_ret ?_
 refine ret1 (fn := Try.f43) rfl H rfl ?_
 have hE : EndP P T pe xs (hds out xs ps) v r L := ⟨hF, h0v, hLv, hLx⟩
 rw [mfv_eq hO9 hE]
 exact ⟨rfl, (S.sel [] rfl rfl)⟩

theorem ways_Left (pl : Int) (ps : List Psg) (PA : Option Addr) (pc : Nat) (xs : List Int) (XA : Option Addr) (xc : Nat) (out : Int) (pe : List Int) (BA : Option Addr) (bc : Nat) (T0 : Int) (w : World) (hps : InS w noF 7 PA ps.length (pcell ps)) (hpn : ps.length ≤ 9223372036854775807) (hxs : InS w noF 1 XA xs.length (icl xs)) (hxn : xs.length ≤ 9223372036854775807) (hpe : InS w noF 1 BA pe.length (icl pe)) (hpen : pe.length ≤ 9223372036854775807) :
    Calls Try.prog 86 [.agg [.int .i64 pl, .slice PA ps.length pc, .slice XA xs.length xc].toArray, .int .i64 out, .slice BA pe.length bc, .int .i64 T0].toArray w (Ret (fun u w' => (leaveE pl ps xs out pe T0 ≠ 0 ∧ u = .tuple #[.int .i64 0, .int .i64 (leaveE pl ps xs out pe T0)] ∧ St w noF [] w') ∨ (leaveE pl ps xs out pe T0 = 0 ∧ u = .tuple #[.int .i64 (mfv pl.toNat T0.toNat pe xs (hds out xs ps)), .int .i64 0] ∧ St w noF [] w'))) := by
 refine enter Try.func86 rfl Try.ntmps86 rfl (fun a H => ?_)
 have S := St.start w
 refine seq_list fun K1 k1 => ?_
 refine list_box H rfl S rfl rfl ?_;clear H a S;intro b4 _ a hb4 hbw4 S H
 refine ls 2 H <| sr 2 rfl <| sE ?_;clear H a;intro a H
 refine k1 _ _ ?_;clear k1 K1
 refine wp_seq_k fun K2 k2 => ?_
 refine seq_list fun K3 k3 => ?_
 refine ls 4 H <| sd ((does_loadBox agg_25 sz_25 rfl S (i := 0) rfl rfl)) <| sr 3 rfl <| sE ?_;clear H a;intro a H
 refine list_call H rfl rfl Try.func101 rfl rfl (ways_leaving pl ps PA pc xs XA xc out pe BA bc T0 _ (hps.now S) hpn (hxs.now S) hxn (hpe.now S) hpen) ?_;clear H a
 rintro _ _ a ⟨rfl, S2⟩ H
 replace S := S.call S2;clear S2
 refine ls 1 H <| sr 1 rfl <| sE ?_;clear H a;intro a H
 refine k3 _ _ ?_;clear k3 K3
 replace H := H.keep [1, 2, 3, 4, 10] rfl
 refine sS H fun K4 k4=>sr 2 rfl <| sE ?_;clear H a;intro a H
 refine k4 _ ?_;clear k4 K4
 refine condN H rfl (fun hc1 => ?_) (fun hc1 => ?_)
 ·skip
  refine sS H fun K5 k5=>sr 3 rfl <| sE ?_;clear H a;intro a H
  refine k5 _ ?_;clear k5 K5
  refine wp_ret ?_
  refine ret2 (fn := Try.f86) rfl H rfl rfl ?_
  exact .inl ⟨hc1, rfl, (S.sel [] rfl rfl)⟩
 obtain ⟨hst, hou, hcr, hti⟩ := leaveE_ok hc1
 have hV0 := st_valid hst
 obtain ⟨P, rfl⟩ : ∃ P : Nat, pl = P := ⟨pl.toNat, by have := hV0.size; omega⟩
 have hV := hV0
 obtain ⟨hpp, hpl'⟩ := crowd_ok hcr
 have hpl : pe.length = P := by omega
 obtain ⟨T, rfl⟩ : ∃ T : Nat, T0 = T := ⟨T0.toNat, by omega⟩
 have hT : T ≤ 60 := by omega
 have hO9 := lay_ok (T := T) (out := out) hV hpp
 have hC : P * (T + 1) ≤ 10 * 61 := Nat.mul_le_mul (by have := hV.size; omega) (by omega)
 refine wp_skip ?_
 refine k2 _ _ ?_
 replace H := H.keep [1, 2, 3, 4] rfl
 refine seq_list fun K6 k6 => ?_
 refine ls 4 H <| sd ((does_loadBox agg_25 sz_25 rfl S (i := 0) rfl rfl)) <| sr 3 rfl <| sE ?_;clear H a;intro a H
 refine list_call H rfl rfl Try.func67 rfl rfl (ways_lay2 P T ps PA pc xs XA xc out pe BA bc _ (hps.now S) hpn (hxs.now S) hxn (hpe.now S) hpl hV hou hpp hT) ?_;clear H a
 rintro _ _ a ⟨b31, EA, A', c', rfl, S2⟩ H
 replace S := S.call S2;clear S2
 have S1 := (S.sel [0, 1, 2] rfl rfl)
 refine list_call H rfl rfl Try.func68 rfl rfl (net_fill (layN P T pe xs (hds out xs ps)) (layT P T pe xs (hds out xs ps)).room (layT P T pe xs (hds out xs ps)).mv b31 (P : Int) (T : Int) _ _ EA A' c' (P * (T + 1)) ((P * (T + 1)) + 1) _ _ S1.startR hO9.wf hO9.ok (by show _ < P * (T + 1) + 2; omega) (by show _ < P * (T + 1) + 2; omega) (by omega) (by show P * (T + 1) + 2 ≤ _; omega) (by have := hO9.beg; have := hV.size; omega)) ?_;clear H a
 rintro _ _ a ⟨v, r, rfl, hF, h0v, ⟨L, hLv, hLx⟩, S2⟩ H
 replace S := (S.sel [0, 1, 2, 3] rfl rfl).callR (M := [_, _, _]) S2; clear S1 S2
 refine ls 2 H <| sr 2 rfl <| sE ?_;clear H a;intro a H
 refine k6 _ _ ?_;clear k6 K6
 refine wp_ret ?_
 refine ret2 (fn := Try.f86) rfl H rfl rfl ?_
 have hE : EndP P T pe xs (hds out xs ps) v r L := ⟨hF, h0v, hLv, hLx⟩
 rw [Int.toNat_natCast, Int.toNat_natCast, mfv_eq hO9 hE]
 exact .inr ⟨hc1, rfl, (S.sel [] rfl rfl)⟩

end Go.Proofs.Ytopmadlgolnmfaa
