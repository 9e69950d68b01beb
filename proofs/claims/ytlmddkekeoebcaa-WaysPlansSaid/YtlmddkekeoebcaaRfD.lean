/- RfD. Printed by gen.py. -/
import Derived.Test.YtlmddkekeoebcaaRfC
namespace Go.Proofs.Ytlmddkekeoebcaa
open Go.RowKit
set_option linter.unusedVariables false
set_option linter.unusedSimpArgs false
set_option maxRecDepth 100000
set_option maxHeartbeats 4000000


noncomputable def leftV (pl : Int) (ps : List Psg) (xs : List Int) (out : Int) (pe : List Int) (T0 : Int) : Int × Int :=
  if leaveE pl ps xs out pe T0 ≠ 0 then (0, leaveE pl ps xs out pe T0) else (mfv pl.toNat T0.toNat pe xs (hds out xs ps), 0)
theorem left_form {pl : Int} {ps : List Psg} {xs : List Int} {out : Int} {pe : List Int} {T0 : Int} {w : World} {u : Value} {w' : World} (h : (fun u w' => (leaveE pl ps xs out pe T0 ≠ 0 ∧ u = .tuple #[.int .i64 0, .int .i64 (leaveE pl ps xs out pe T0)] ∧ St w noF [] w') ∨ (leaveE pl ps xs out pe T0 = 0 ∧ u = .tuple #[.int .i64 (mfv pl.toNat T0.toNat pe xs (hds out xs ps)), .int .i64 0] ∧ St w noF [] w')) u w') : (fun u w' => u = .tuple #[.int .i64 (leftV pl ps xs out pe T0).1, .int .i64 (leftV pl ps xs out pe T0).2] ∧ St w noF [] w') u w' := by
  rcases h with ⟨h0, rfl, S⟩ | ⟨h0, rfl, S⟩
  · unfold leftV; rw [if_pos h0]; exact ⟨rfl, S⟩
  · unfold leftV; rw [if_neg (by omega)]; exact ⟨rfl, S⟩
def fstD (f : Nat → Bool) (T : Nat) : Nat → Nat
  | 0 => T + 1
  | d + 1 => if f (T - d) = true then T - d else fstD f T d
theorem fstD_eq {f : Nat → Bool} {T : Nat} : fstD f T (T + 1) = fstB f (T + 1) := by
  have key : ∀ d, d ≤ T + 1 → (∀ t, T - d < t → t ≤ T → f t = false) ∧ fstD f T d = T + 1 ∨ ∃ t, T < t + d ∧ t ≤ T ∧ fstD f T d = t ∧ f t = true ∧ ∀ q, T < q + d → q < t → f q = false := by
    intro d
    induction d with
    | zero => intro _; exact .inl ⟨fun t h1 h2 => by omega, rfl⟩
    | succ d ih =>
      intro hd
      by_cases hf : f (T - d) = true
      · exact .inr ⟨T - d, by omega, by omega, by rw [fstD, if_pos hf], hf, fun q h1 h2 => by omega⟩
      · rw [fstD, if_neg hf]
        rcases ih (by omega) with ⟨h1, h2⟩ | ⟨t, h1, h2, h3, h4, h5⟩
        · refine .inl ⟨fun t ht hT => ?_, h2⟩
          by_cases e : t = T - d
          · subst e; simpa using hf
          · exact h1 t (by omega) hT
        · refine .inr ⟨t, by omega, h2, h3, h4, fun q hq hqt => ?_⟩
          by_cases e : q = T - d
          · subst e; simpa using hf
          · exact h5 q (by omega) hqt
  rcases key (T + 1) (Nat.le_refl _) with ⟨h1, h2⟩ | ⟨t, h1, h2, h3, h4, h5⟩
  · by_cases hf : f 0 = true
    · exfalso
      have : fstD f T (T + 1) = 0 := by rw [fstD, Nat.sub_self, if_pos hf]
      omega
    · rw [h2, fst_none (fun q hq => by
        by_cases e : q = 0
        · subst e; simpa using hf
        · exact h1 q (by omega) (by omega))]
  · rw [h3, fst_at (fun q hq => h5 q (by omega) hq) h4 (by omega)]
theorem sum_bd {pe : List Int} (hpp : ∀ k, k < pe.length → 0 ≤ pe.getD k 0 ∧ pe.getD k 0 ≤ 1000) (hl : pe.length ≤ 12) {k : Nat} (hk : k ≤ pe.length) : 0 ≤ sumI pe k ∧ sumI pe k ≤ 12000 := by
  have := sumI_bd hpp k hk
  omega


theorem ref_sum (pe : List Int) (BA : Option Addr) (bc : Nat) (w : World) (hpe : InS w noF 1 BA pe.length (icl pe)) (hpp : ∀ k, k < pe.length → 0 ≤ pe.getD k 0 ∧ pe.getD k 0 ≤ 1000) (hpn : pe.length ≤ 1000) :
    Calls Try.prog 78 [.slice BA pe.length bc].toArray w (Ret (fun v w' => v = .int .i64 (sumI pe pe.length) ∧ St w noF [] w')) := by
 refine enter Try.func78 rfl Try.ntmps78 rfl (fun a H => ?_)
 have S := St.start w
 refine sS H fun K1 k1=>sr 1 rfl <| sE ?_;clear H a;intro a H
 refine k1 _ ?_;clear k1 K1
 refine sS H fun K2 k2=>sr 1 rfl <| sE ?_;clear H a;intro a H
 refine k2 _ ?_;clear k2 K2
 refine wp_seq_k fun K3 k3 => ?_
 refine sS H fun K4 k4=>sr 1 rfl <| sE ?_;clear H a;intro a H
 refine k4 _ ?_;clear k4 K4
 refine wp_block ?_
 refine loop_st (X := Nat) (R0 := _) [0] H rfl (fun k => [(3, .int .i64 (sumI pe k)), (4, .int .i64 (k : Int))]) (fun k => []) (fun g k => k ≤ pe.length ∧ g + k = pe.length) (pe.length) 0 ?_ (S.sel [] rfl rfl) (H.keep [3, 4, 0] rfl) ?_
 · exact ⟨by omega, by omega⟩
 clear H S a
 intro g1 x1 a w1 hp S H K5 k5
 obtain ⟨k, rfl⟩ : ∃ y, y = x1 := ⟨_, rfl⟩
 refine wp_seq_k fun K6 k6 => ?_
 refine sS H fun K7 k7=>sr 2 rfl <| sL sl_23 rfl <| sr 1 rfl <| sE ?_;clear H a;intro a H
 refine k7 _ ?_;clear k7 K7
 refine condL H rfl (fun hc1 => ?_) (fun hc1 => ?_)
 ·skip
  refine wp_skip ?_
  refine k6 _ _ ?_
  refine wp_seq_k fun K8 k8 => ?_
  refine wp_block ?_
  have hsb := sumI_bd hpp k (by omega); have hsk := hpp k (by omega)
  replace H := H.keep [0, 3, 4] rfl
  refine sO H <| sr 3 rfl <| si sl_23 sz_3 rfl rfl (hpe.adr (by omega)) (by omega) <| slm one_3 rfl (hpe.rd S (by omega) (by omega)) <| sd (does_add rfl rfl (by unfold i64ok; omega)) <| sr 1 rfl <| sE ?_;clear H a;intro a H
  refine k8 _ _ ?_
  replace H := H.keep [0, 3, 4] rfl
  refine sO H <| sr 1 rfl <| sd (does_add rfl rfl (by unfold i64ok; omega)) <| sr 1 rfl <| sE ?_;clear H a;intro a H
  exact k5 (g1 - 1) (k + 1) a _ (by omega) (⟨by omega, by omega⟩) (S.sel [] rfl rfl) (H.keep [3, 4, 0] rfl)
 refine wp_exit ?_
 refine k3 _ _ ?_
 refine sS H fun K11 k11=>sr 2 rfl <| sE ?_;clear H a;intro a H
 refine k11 _ ?_;clear k11 K11
 refine wp_ret ?_
 refine ret1 (fn := Try.f78) rfl H rfl ?_
 have hk9 : k = pe.length := by omega
 subst hk9
 exact ⟨rfl, (S.sel [] rfl rfl)⟩

theorem ref_Left (pl : Int) (ps : List Psg) (PA : Option Addr) (pc : Nat) (xs : List Int) (XA : Option Addr) (xc : Nat) (out : Int) (pe : List Int) (BA : Option Addr) (bc : Nat) (T0 : Int) (w : World) (hps : InS w noF 7 PA ps.length (pcell ps)) (hpn : ps.length ≤ 9223372036854775807) (hxs : InS w noF 1 XA xs.length (icl xs)) (hxn : xs.length ≤ 9223372036854775807) (hpe : InS w noF 1 BA pe.length (icl pe)) (hpen : pe.length ≤ 9223372036854775807) :
    Calls Try.prog 37 [.agg [.int .i64 pl, .slice PA ps.length pc, .slice XA xs.length xc].toArray, .int .i64 out, .slice BA pe.length bc, .int .i64 T0].toArray w (Ret (fun u w' => (leaveE pl ps xs out pe T0 ≠ 0 ∧ u = .tuple #[.int .i64 0, .int .i64 (leaveE pl ps xs out pe T0)] ∧ St w noF [] w') ∨ (leaveE pl ps xs out pe T0 = 0 ∧ u = .tuple #[.int .i64 (mfv pl.toNat T0.toNat pe xs (hds out xs ps)), .int .i64 0] ∧ St w noF [] w'))) := by
 refine enter Try.func37 rfl Try.ntmps37 rfl (fun a H => ?_)
 have S := St.start w
 refine seq_list fun K1 k1 => ?_
 refine list_box H rfl S rfl rfl ?_;clear H a S;intro b4 _ a hb4 hbw4 S H
 refine ls 2 H <| sr 2 rfl <| sE ?_;clear H a;intro a H
 refine k1 _ _ ?_;clear k1 K1
 refine seq_list fun K2 k2 => ?_
 refine ls 4 H <| sd ((does_loadBox agg_25 sz_25 rfl S (i := 0) rfl rfl)) <| sr 3 rfl <| sE ?_;clear H a;intro a H
 refine list_call H rfl rfl Try.func29 rfl rfl (ref_CheckLeave pl ps PA pc xs XA xc out pe BA bc T0 _ (hps.now S) hpn (hxs.now S) hxn (hpe.now S) hpen) ?_;clear H a
 rintro _ _ a ⟨rfl, S2⟩ H
 replace S := S.call S2;clear S2
 refine ls 1 H <| sr 1 rfl <| sE ?_;clear H a;intro a H
 refine k2 _ _ ?_;clear k2 K2
 refine wp_seq_k fun K3 k3 => ?_
 replace H := H.keep [1, 2, 3, 4, 10] rfl
 refine sS H fun K4 k4=>sr 2 rfl <| sE ?_;clear H a;intro a H
 refine k4 _ ?_;clear k4 K4
 refine condN H rfl (fun hc1 => ?_) (fun hc1 => ?_)
 ·skip
  refine sS H fun K5 k5=>sr 3 rfl <| sE ?_;clear H a;intro a H
  refine k5 _ ?_;clear k5 K5
  refine wp_ret ?_
  refine ret2 (fn := Try.f37) rfl H rfl rfl ?_
  exact .inl ⟨hc1, rfl, (S.sel [] rfl rfl)⟩
 obtain ⟨hst, hou, hcr, hti⟩ := leaveE_ok hc1
 have hV0 := st_valid hst
 obtain ⟨P, rfl⟩ : ∃ P : Nat, pl = P := ⟨pl.toNat, by have := hV0.size; omega⟩
 have hV := hV0
 obtain ⟨hpp, hpl'⟩ := crowd_ok hcr
 have hpl : pe.length = P := by omega
 obtain ⟨T, rfl⟩ : ∃ T : Nat, T0 = T := ⟨T0.toNat, by omega⟩
 have hT : T ≤ 60 := by omega
 refine wp_skip ?_
 refine k3 _ _ ?_
 replace H := H.keep [1, 2, 3, 4] rfl
 refine seq_list fun K6 k6 => ?_
 refine ls 4 H <| sd ((does_loadBox agg_25 sz_25 rfl S (i := 0) rfl rfl)) <| sr 3 rfl <| sE ?_;clear H a;intro a H
 refine list_call H rfl rfl Try.func72 rfl rfl (ref_leave P T ps PA pc xs XA xc out pe BA bc _ (hps.now S) hpn (hxs.now S) hxn (hpe.now S) hpl hV hou hpp hT) ?_;clear H a
 rintro _ _ a ⟨b28, EA, ec, AA, A', c', r, v, L, rfl, hE, S2⟩ H
 replace S := S.call S2;clear S2
 refine ls 5 H <| sr 1 rfl <| sf fo_124_4 rfl <| sl S 0 one_3 rfl rfl rfl <| sr 2 rfl <| sE ?_;clear H a;intro a H
 refine k6 _ _ ?_;clear k6 K6
 refine wp_ret ?_
 refine ret2 (fn := Try.f37) rfl H rfl rfl ?_
 refine .inr ⟨hc1, ?_, (S.sel [] rfl rfl)⟩
 rw [Int.toNat_natCast, Int.toNat_natCast, mfv_R hV hou.1 hpp hE]

theorem ref_Clear (pl : Int) (ps : List Psg) (PA : Option Addr) (pc : Nat) (xs : List Int) (XA : Option Addr) (xc : Nat) (out : Int) (pe : List Int) (BA : Option Addr) (bc : Nat) (w : World) (hps : InS w noF 7 PA ps.length (pcell ps)) (hpn : ps.length ≤ 9223372036854775807) (hxs : InS w noF 1 XA xs.length (icl xs)) (hxn : xs.length ≤ 9223372036854775807) (hpe : InS w noF 1 BA pe.length (icl pe)) (hpen : pe.length ≤ 9223372036854775807) :
    Calls Try.prog 39 [.agg [.int .i64 pl, .slice PA ps.length pc, .slice XA xs.length xc].toArray, .int .i64 out, .slice BA pe.length bc].toArray w (Ret (fun u w' => (leaveE pl ps xs out pe 0 ≠ 0 ∧ u = .tuple #[.int .i64 0, .int .i64 (leaveE pl ps xs out pe 0)] ∧ St w noF [] w') ∨ (leaveE pl ps xs out pe 0 = 0 ∧ u = clearV (fstB (fun t => decide (mfv pl.toNat t pe xs (hds out xs ps) = sumI pe pe.length)) 61) ∧ St w noF [] w'))) := by
 refine enter Try.func39 rfl Try.ntmps39 rfl (fun a H => ?_)
 have S := St.start w
 refine seq_list fun K1 k1 => ?_
 refine list_box H rfl S rfl rfl ?_;clear H a S;intro b3 _ a hb3 hbw3 S H
 refine ls 2 H <| sr 2 rfl <| sE ?_;clear H a;intro a H
 refine k1 _ _ ?_;clear k1 K1
 refine seq_list fun K2 k2 => ?_
 refine ls 3 H <| sd ((does_loadBox agg_25 sz_25 rfl S (i := 0) rfl rfl)) <| sr 2 rfl <| sE ?_;clear H a;intro a H
 refine list_call H rfl rfl Try.func29 rfl rfl (ref_CheckLeave pl ps PA pc xs XA xc out pe BA bc 0 _ (hps.now S) hpn (hxs.now S) hxn (hpe.now S) hpen) ?_;clear H a
 rintro _ _ a ⟨rfl, S2⟩ H
 replace S := S.call S2;clear S2
 refine ls 1 H <| sr 1 rfl <| sE ?_;clear H a;intro a H
 refine k2 _ _ ?_;clear k2 K2
 refine wp_seq_k fun K3 k3 => ?_
 replace H := H.keep [1, 2, 3, 8] rfl
 refine sS H fun K4 k4=>sr 2 rfl <| sE ?_;clear H a;intro a H
 refine k4 _ ?_;clear k4 K4
 refine condN H rfl (fun hc1 => ?_) (fun hc1 => ?_)
 ·skip
  refine sS H fun K5 k5=>sr 3 rfl <| sE ?_;clear H a;intro a H
  refine k5 _ ?_;clear k5 K5
  refine wp_ret ?_
  refine ret2 (fn := Try.f39) rfl H rfl rfl ?_
  exact .inl ⟨hc1, rfl, (S.sel [] rfl rfl)⟩
 obtain ⟨hst, hou, hcr, hti⟩ := leaveE_ok hc1
 have hV0 := st_valid hst
 obtain ⟨P, rfl⟩ : ∃ P : Nat, pl = P := ⟨pl.toNat, by have := hV0.size; omega⟩
 have hV := hV0
 obtain ⟨hpp, hpl'⟩ := crowd_ok hcr
 have hpl : pe.length = P := by omega
 have hP10 := hV.size
 refine wp_skip ?_
 refine k3 _ _ ?_
 refine wp_seq_k fun K6 k6 => ?_
 refine sS H fun K7 k7=>sr 1 rfl <| sE ?_;clear H a;intro a H
 refine k7 _ ?_;clear k7 K7
 refine wp_block ?_
 refine loop_st (X := Nat) (R0 := _) [1, 2, 3] H rfl (fun t => [(9, .int .i64 (t : Int))]) (fun t => []) (fun g t => t ≤ 61 ∧ g + t = 61 ∧ ∀ q, q < t → decide (mfv P q pe xs (hds out xs ps) = sumI pe pe.length) = false) (61) 0 ?_ (S.sel [0] rfl rfl) (H.keep [9, 1, 2, 3] rfl) ?_
 · exact ⟨by omega, by omega, fun q hq => absurd hq (Nat.not_lt_zero q)⟩
 clear H S a
 intro g1 x1 a w1 hp S H K8 k8
 obtain ⟨t, rfl⟩ : ∃ y, y = x1 := ⟨_, rfl⟩
 refine wp_seq_k fun K9 k9 => ?_
 refine sS H fun K10 k10=>sr 2 rfl <| sE ?_;clear H a;intro a H
 refine k10 _ ?_;clear k10 K10
 refine condG H rfl (fun hc2 => ?_) (fun hc2 => ?_)
 ·skip
  refine wp_skip ?_
  refine k9 _ _ ?_
  refine wp_seq_k fun K11 k11 => ?_
  refine wp_block ?_
  replace H := H.keep [1, 2, 3, 9] rfl
  replace S := S.drew
  refine seq_wt 999 (.q 0 (.p 1 (.p 2 (.p 3 (.p 8 (.e 4 (.p 5 (.p 6 (.b2 7 (.e 9 (.p 10 .nil)) 9 (.e 7 (.p 10 .nil))))))))))) (by kernel_rfl) (by kernel_rfl) (S.sel [0] rfl rfl) fun K12 k12 => ?_
  refine wt_does H rfl rfl (fun _ S => (does_loadBox agg_25 sz_25 rfl S (i := 0) rfl rfl)) ?_;clear H a;intro a H
  refine wt_pure H rfl rfl (fun _ => does_move rfl) ?_;clear H a;intro a H
  refine wt_pure H rfl rfl (fun _ => does_move rfl) ?_;clear H a;intro a H
  refine wt_pure H rfl rfl (fun _ => does_move rfl) ?_;clear H a;intro a H
  refine wt_pure H rfl rfl (fun _ => does_move rfl) ?_;clear H a;intro a H
  refine wt_eff rfl ?_
  refine list_call H rfl rfl Try.func72 rfl rfl (ref_leave P t ps PA pc xs XA xc out pe BA bc _ (hps.now S) hpn (hxs.now S) hxn (hpe.now S) hpl hV hou hpp (by omega)) ?_;clear H a
  rintro _ _ a ⟨b28, EA, ec, AA, A', c', r, v, L, rfl, hE, S2⟩ H
  replace S := S.call S2;clear S2
  have hmf := mfv_R hV hou.1 hpp hE
  refine wpList_nil (And.intro (Or.inr (S.sel [4] rfl rfl)) ?_)
  refine wt_pure H rfl rfl (fun _ => does_nilCheck rfl) ?_;clear H a;intro a H
  refine wt_pure H rfl rfl (fun _ => (does_field fo_124_4 rfl)) ?_;clear H a;intro a H
  refine wt_b2 rfl rfl ?_ ?_
  ·skip
   refine ls 1 H <| sl S 0 one_3 rfl rfl rfl <| sE ?_;clear H a;intro a H
   refine wpList_nil (And.intro (Or.inr (S.sel [4] rfl rfl)) ?_)
   refine wt_eff rfl ?_
   refine list_call H rfl rfl Try.func78 rfl rfl (ref_sum pe BA bc _ (hpe.now S) hpp (by omega)) ?_;clear H a
   rintro _ _ a ⟨rfl, S2⟩ H
   replace S := S.call S2;clear S2
   refine wpList_nil (And.intro (Or.inr (S.sel [4] rfl rfl)) ?_)
   refine wt_pure H rfl rfl (fun _ => does_eql rfl rfl) ?_;clear H a;intro a H
   refine wt_nil ?_
   refine k12 _ _ ?_
   clear k12 K12
   refine condE H rfl (fun hc3 => ?_) (fun hc3 => ?_)
   ·skip
    replace H := H.keep [9] rfl
    refine sS H fun K13 k13=>sr 3 rfl <| sE ?_;clear H a;intro a H
    refine k13 _ ?_;clear k13 K13
    refine wp_ret ?_
    refine ret2 (fn := Try.f39) rfl H rfl rfl ?_
    refine .inr ⟨hc1, ?_, (S.sel [] rfl rfl)⟩
    rw [Int.toNat_natCast, fst_at hp.2.2 (decide_eq_true (by rw [hmf]; omega)) (by omega)]
    unfold clearV
    rw [if_pos (by omega)]
   refine wp_skip ?_
   refine k11 _ _ ?_
   refine sO H <| sr 1 rfl <| sd (does_add rfl rfl (by unfold i64ok; omega)) <| sr 1 rfl <| sE ?_;clear H a;intro a H
   exact k8 (g1 - 1) (t + 1) a _ (by omega) (⟨by omega, by omega, fun q hq => by
     by_cases e : q = t
     · subst e; exact decide_eq_false (by rw [hmf]; omega)
     · exact hp.2.2 q (by omega)⟩) (S.sel [4] rfl rfl) (H.keep [9, 1, 2, 3] rfl)
  ·skip
   refine list_call H rfl rfl Try.func78 rfl rfl (ref_sum pe BA bc _ (hpe.now S) hpp (by omega)) ?_;clear H a
   rintro _ _ a ⟨rfl, S2⟩ H
   replace S := S.call S2;clear S2
   refine wpList_nil (And.intro (Or.inr (S.sel [4] rfl rfl)) ?_)
   refine wt_eff rfl ?_
   refine ls 1 H <| sl S 0 one_3 rfl rfl rfl <| sE ?_;clear H a;intro a H
   refine wpList_nil (And.intro (Or.inr (S.sel [4] rfl rfl)) ?_)
   refine wt_pure H rfl rfl (fun _ => does_eql rfl rfl) ?_;clear H a;intro a H
   refine wt_nil ?_
   refine k12 _ _ ?_
   clear k12 K12
   refine condE H rfl (fun hc4 => ?_) (fun hc4 => ?_)
   ·skip
    refine sS H fun K15 k15=>sr 3 rfl <| sE ?_;clear H a;intro a H
    refine k15 _ ?_;clear k15 K15
    refine wp_ret ?_
    refine ret2 (fn := Try.f39) rfl H rfl rfl ?_
    refine .inr ⟨hc1, ?_, (S.sel [] rfl rfl)⟩
    rw [Int.toNat_natCast, fst_at hp.2.2 (decide_eq_true (by rw [hmf]; omega)) (by omega)]
    unfold clearV
    rw [if_pos (by omega)]
   refine wp_skip ?_
   refine k11 _ _ ?_
   replace H := H.keep [1, 2, 3, 9] rfl
   refine sO H <| sr 1 rfl <| sd (does_add rfl rfl (by unfold i64ok; omega)) <| sr 1 rfl <| sE ?_;clear H a;intro a H
   exact k8 (g1 - 1) (t + 1) a _ (by omega) (⟨by omega, by omega, fun q hq => by
     by_cases e : q = t
     · subst e; exact decide_eq_false (by rw [hmf]; omega)
     · exact hp.2.2 q (by omega)⟩) (S.sel [4] rfl rfl) (H.keep [9, 1, 2, 3] rfl)
 refine wp_exit ?_
 refine k6 _ _ ?_
 refine sS H fun K17 k17=>sr 2 rfl <| sE ?_;clear H a;intro a H
 refine k17 _ ?_;clear k17 K17
 refine wp_ret ?_
 refine ret2 (fn := Try.f39) rfl H rfl rfl ?_
 refine .inr ⟨hc1, ?_, (S.sel [] rfl rfl)⟩
 rw [Int.toNat_natCast, fst_none (fun q hq => hp.2.2 q (by omega))]
 rfl

theorem ref_Cut (pl : Int) (ps : List Psg) (PA : Option Addr) (pc : Nat) (xs : List Int) (XA : Option Addr) (xc : Nat) (out : Int) (pe : List Int) (BA : Option Addr) (bc : Nat) (T0 : Int) (w : World) (hps : InS w noF 7 PA ps.length (pcell ps)) (hpn : ps.length ≤ 9223372036854775807) (hxs : InS w noF 1 XA xs.length (icl xs)) (hxn : xs.length ≤ 9223372036854775807) (hpe : InS w noF 1 BA pe.length (icl pe)) (hpen : pe.length ≤ 9223372036854775807) :
    Calls Try.prog 35 [.agg [.int .i64 pl, .slice PA ps.length pc, .slice XA xs.length xc].toArray, .int .i64 out, .slice BA pe.length bc, .int .i64 T0].toArray w (Ret (fun u w' => (leaveE pl ps xs out pe T0 ≠ 0 ∧ u = .tuple #[.slice none 0 0, .int .i64 (leaveE pl ps xs out pe T0)] ∧ St w noF [] w') ∨ (leaveE pl ps xs out pe T0 = 0 ∧ ∃ A c, u = .tuple #[.slice A pl.toNat c, .int .i64 0] ∧ St w noF [ownM 3 1 A pl.toNat c (ncl (mfc pl.toNat T0.toNat pe xs (hds out xs ps)))] w'))) := by
 refine enter Try.func35 rfl Try.ntmps35 rfl (fun a H => ?_)
 have S := St.start w
 refine seq_list fun K1 k1 => ?_
 refine list_box H rfl S rfl rfl ?_;clear H a S;intro b4 _ a hb4 hbw4 S H
 refine ls 2 H <| sr 2 rfl <| sE ?_;clear H a;intro a H
 refine k1 _ _ ?_;clear k1 K1
 refine seq_list fun K2 k2 => ?_
 refine ls 4 H <| sd ((does_loadBox agg_25 sz_25 rfl S (i := 0) rfl rfl)) <| sr 3 rfl <| sE ?_;clear H a;intro a H
 refine list_call H rfl rfl Try.func29 rfl rfl (ref_CheckLeave pl ps PA pc xs XA xc out pe BA bc T0 _ (hps.now S) hpn (hxs.now S) hxn (hpe.now S) hpen) ?_;clear H a
 rintro _ _ a ⟨rfl, S2⟩ H
 replace S := S.call S2;clear S2
 refine ls 1 H <| sr 1 rfl <| sE ?_;clear H a;intro a H
 refine k2 _ _ ?_;clear k2 K2
 refine wp_seq_k fun K3 k3 => ?_
 replace H := H.keep [1, 2, 3, 4, 10] rfl
 refine sS H fun K4 k4=>sr 2 rfl <| sE ?_;clear H a;intro a H
 refine k4 _ ?_;clear k4 K4
 refine condN H rfl (fun hc1 => ?_) (fun hc1 => ?_)
 ·skip
  refine sS H fun K5 k5=>sr 3 rfl <| sE ?_;clear H a;intro a H
  refine k5 _ ?_;clear k5 K5
  refine wp_ret ?_
  refine ret2 (fn := Try.f35) rfl H rfl rfl ?_
  exact .inl ⟨hc1, rfl, (S.sel [] rfl rfl)⟩
 obtain ⟨hst, hou, hcr, hti⟩ := leaveE_ok hc1
 have hV0 := st_valid hst
 obtain ⟨P, rfl⟩ : ∃ P : Nat, pl = P := ⟨pl.toNat, by have := hV0.size; omega⟩
 have hV := hV0
 obtain ⟨hpp, hpl'⟩ := crowd_ok hcr
 have hpl : pe.length = P := by omega
 obtain ⟨T, rfl⟩ : ∃ T : Nat, T0 = T := ⟨T0.toNat, by omega⟩
 have hT : T ≤ 60 := by omega
 have hP10 := hV.size
 have hC : P * (T + 1) ≤ 10 * 61 := Nat.mul_le_mul (by omega) (by omega)
 have hOR := lay_R (T := T) (out := out) hV hpp
 have hl1 := jrPlaces_len (P := P) (T := T) (pe := pe) (xs := xs) P
 have hb1 : P * (T + 2) ≤ 10 * 62 := Nat.mul_le_mul (by omega) (by omega)
 have hl2 := jrHeads_len (T := T) (xs := xs) (out := out) (ps := ps) (by omega) (T + 1)
 have hEl : (egs (jrAll P T pe xs out ps)).length ≤ 10000 := by rw [egs_len]; unfold jrAll; rw [List.length_append]; omega
 refine wp_skip ?_
 refine k3 _ _ ?_
 replace H := H.keep [1, 2, 3, 4] rfl
 refine seq_list fun K6 k6 => ?_
 refine ls 4 H <| sd ((does_loadBox agg_25 sz_25 rfl S (i := 0) rfl rfl)) <| sr 3 rfl <| sE ?_;clear H a;intro a H
 refine list_call H rfl rfl Try.func72 rfl rfl (ref_leave P T ps PA pc xs XA xc out pe BA bc _ (hps.now S) hpn (hxs.now S) hxn (hpe.now S) hpl hV hou hpp hT) ?_;clear H a
 rintro _ _ a ⟨b28, EA, ec, AA, A', c', r, v, L, rfl, hE, S2⟩ H
 replace S := S.call S2;clear S2
 refine ls 1 H <| sr 1 rfl <| sE ?_;clear H a;intro a H
 refine k6 _ _ ?_;clear k6 K6
 replace H := H.keep [3, 4, 11] rfl
 refine seq_list fun K7 k7 => ?_
 refine ls 1 H <| sr 1 rfl <| sE ?_;clear H a;intro a H
 have S1 := (S.sel [0, 1, 2, 3] rfl rfl)
 refine list_call H rfl rfl Try.func73 rfl rfl (ref_reached (layR P T pe xs out ps) (egs (jrAll P T pe xs out ps)) r b28 P T _ _ EA ec (P * (T + 1) + 2) AA A' c' v _ _ S1.startR (lk_net hOR.ne) hOR.wf rfl (by omega) (by omega) (by omega) (by omega) (by omega)) ?_;clear H a
 rintro _ _ a ⟨IA, BA2, L2, by_, rfl, hLv, hRc, S2⟩ H
 replace S := (S.sel [0, 1, 2, 3, 4] rfl rfl).callR (M := [_, _, _, _]) S2; clear S1 S2
 have hE2 : EndR P T pe xs out ps v (rmE (egs (jrAll P T pe xs out ps)) r) L2 := ⟨hE.fl, hE.nn, hLv, by
   have h1 := hE.tight.2.1
   have h2 := hE.inside (S := reached L2) (by unfold reached; rw [hLv.b0]; rfl)
   refine Classical.byContradiction fun h3 => ?_
   have h4 := hLv.least (S := reached L) hE.tight.1 (fun u hu hS j hj hr => by
     have h5 : 0 ≤ L u := by unfold reached at hS; simpa using hS
     have h6 := hE.lev.cl u hu h5 j hj hr
     unfold reached; exact decide_eq_true h6) (P * (T + 1) + 1) (by show _ < P * (T + 1) + 2; omega) (by omega)
   rw [h1] at h4; cases h4⟩
 refine ls 5 H <| sr 5 rfl <| sE ?_;clear H a;intro a H
 refine k7 _ _ ?_;clear k7 K7
 refine sS H fun K8 k8=>sr 1 rfl <| sE ?_;clear H a;intro a H
 refine k8 _ ?_;clear k8 K8
 refine wp_seq_k fun K9 k9 => ?_
 refine sS H fun K10 k10=>sr 1 rfl <| sE ?_;clear H a;intro a H
 refine k10 _ ?_;clear k10 K10
 refine wp_block ?_
 replace S := S.newNil 3 1 (ncl (fun _ => 0))
 refine loop_st (X := Nat × (Nat → Nat) × Option Addr × Nat) (R0 := _) [3, 4, 11, 12] H rfl (fun ⟨p, lq, A9, c9⟩ => [(14, .slice A9 p c9), (15, .int .i64 (p : Int))]) (fun ⟨p, lq, A9, c9⟩ => [ownM 3 1 A9 p c9 (ncl lq)]) (fun g ⟨p, lq, A9, c9⟩ => p ≤ P ∧ g + p = P ∧ ∀ q, q < p → lq q = fstB (fun t => reached L2 (ndR T q t)) (T + 1)) (P) (0, fun _ => 0, none, 0) ?_ (S.sel [0, 1, 2, 3, 4, 5, 6, 7] rfl rfl) (H.keep [14, 15, 3, 4, 11, 12] rfl) ?_
 · exact ⟨by omega, by omega, fun q hq => absurd hq (Nat.not_lt_zero q)⟩
 clear H S a
 intro g1 x1 a w1 hp S H K11 k11
 obtain ⟨p, lq, A9, c9⟩ := x1
 dsimp only at hp S H
 obtain ⟨hpP, hgp, hlq⟩ := hp
 refine wp_seq_k fun K12 k12 => ?_
 refine sS H fun K13 k13=>sr 1 rfl <| sf fo_25_0 rfl <| sl S 7 one_3 rfl rfl rfl <| sr 1 rfl <| sE ?_;clear H a;intro a H
 refine k13 _ ?_;clear k13 K13
 refine condL H rfl (fun hc2 => ?_) (fun hc2 => ?_)
 ·skip
  refine wp_skip ?_
  refine k12 _ _ ?_
  refine wp_seq_k fun K14 k14 => ?_
  refine wp_block ?_
  refine sS H fun K15 k15=>sr 1 rfl <| sd (does_add rfl rfl (by unfold i64ok; omega)) <| sr 1 rfl <| sE ?_;clear H a;intro a H
  refine k15 _ ?_;clear k15 K15
  refine wp_seq_k fun K16 k16 => ?_
  refine sS H fun K17 k17=>sr 2 rfl <| sE ?_;clear H a;intro a H
  refine k17 _ ?_;clear k17 K17
  refine wp_block ?_
  rw [show (T : Int) = (T : Int) - ((0 : Nat) : Int) by omega] at H
  refine loop_st (X := Nat) (R0 := _) [3, 4, 11, 12, 14, 15] H rfl (fun d => [(16, .int .i64 ((fstD (fun t => reached L2 (ndR T p t)) T d : Nat) : Int)), (17, .int .i64 ((T : Int) - (d : Int)))]) (fun d => []) (fun g d => d ≤ T + 1 ∧ g + d = T + 1) (T + 1) 0 ?_ (S.sel [0, 1, 2, 3, 4, 5, 6, 7] rfl rfl) (H.keep [16, 17, 3, 4, 11, 12, 14, 15] rfl) ?_
  · exact ⟨by omega, by omega⟩
  clear H S a
  intro g2 x2 a w2 hp S H K18 k18
  obtain ⟨d, rfl⟩ : ∃ y, y = x2 := ⟨_, rfl⟩
  refine wp_seq_k fun K19 k19 => ?_
  refine sS H fun K20 k20=>sr 2 rfl <| sE ?_;clear H a;intro a H
  refine k20 _ ?_;clear k20 K20
  refine condG H rfl (fun hc3 => ?_) (fun hc3 => ?_)
  ·skip
   refine wp_skip ?_
   refine k19 _ _ ?_
   refine wp_seq_k fun K21 k21 => ?_
   refine wp_block ?_
   rw [show (T : Int) - (d : Int) = ((T - d : Nat) : Int) by omega] at H
   have hnt := ndR_lt (P := P) (T := T) (p := p) (t := T - d) (by omega) (by omega)
   refine sS H fun K22 k22=>sr 4 rfl <| sc rfl Try.func74 rfl rfl (ref_node (egs (jrAll P T pe xs out ps)) b28 P T _ _ EA ec (P * (T + 1) + 2) AA A' c' v p (T - d) _ _ ((S.sel [3] rfl rfl).startR) (by omega) (by omega) (by omega)) <| si sl_114 sz_4 rfl rfl (ownM.adr S (i := 1) rfl (by omega)) (by omega) <| slm one_4 rfl (ownM.rd S (i := 1) rfl (by omega) (by omega)) <| sE ?_;clear H a;intro a H
   refine k22 _ ?_;clear k22 K22
   refine cond_ H rfl (fun hc4 => ?_) (fun hc4 => ?_)
   ·skip
    try simp only [o1,o2,o3,o4,o5,o6,o7,o8,o9,oa] at hc4
    replace H := H.keep [3, 4, 11, 12, 14, 15, 17] rfl
    refine sO H <| sr 2 rfl <| sE ?_;clear H a;intro a H
    refine k21 _ _ ?_
    refine sO H <| sr 1 rfl <| sd (does_sub rfl rfl (by unfold i64ok; omega)) <| sr 1 rfl <| sE ?_;clear H a;intro a H
    rw [show ((T - d : Nat) : Int) - 1 = (T : Int) - ((d + 1 : Nat) : Int) by omega] at H
    first | rw [show T - d = fstD (fun t => reached L2 (ndR T p t)) T (d + 1) by rw [fstD, if_pos hc4]] at H | rw [show fstD (fun t => reached L2 (ndR T p t)) T d = fstD (fun t => reached L2 (ndR T p t)) T (d + 1) by rw [fstD, if_neg (by rw [hc4]; simp)]] at H
    exact k18 (g2 - 1) (d + 1) a _ (by omega) (⟨by omega, by omega⟩) (S.sel [0, 1, 2, 3, 4, 5, 6, 7] rfl rfl) (H.keep [16, 17, 3, 4, 11, 12, 14, 15] rfl)
   try simp only [o1,o2,o3,o4,o5,o6,o7,o8,o9,oa] at hc4
   refine wp_skip ?_
   refine k21 _ _ ?_
   refine sO H <| sr 1 rfl <| sd (does_sub rfl rfl (by unfold i64ok; omega)) <| sr 1 rfl <| sE ?_;clear H a;intro a H
   rw [show ((T - d : Nat) : Int) - 1 = (T : Int) - ((d + 1 : Nat) : Int) by omega] at H
   first | rw [show T - d = fstD (fun t => reached L2 (ndR T p t)) T (d + 1) by rw [fstD, if_pos hc4]] at H | rw [show fstD (fun t => reached L2 (ndR T p t)) T d = fstD (fun t => reached L2 (ndR T p t)) T (d + 1) by rw [fstD, if_neg (by rw [hc4]; simp)]] at H
   exact k18 (g2 - 1) (d + 1) a _ (by omega) (⟨by omega, by omega⟩) (S.sel [0, 1, 2, 3, 4, 5, 6, 7] rfl rfl) (H.keep [16, 17, 3, 4, 11, 12, 14, 15] rfl)
  refine wp_exit ?_
  refine k16 _ _ ?_
  replace H := H.keep [3, 4, 11, 12, 14, 15, 16] rfl
  refine one_list ?_
  refine ls 2 H <| sr 2 rfl <| sE ?_;clear H a;intro a H
  refine list_build' H rfl S sl_23 sz_3 ze_3 rfl rfl rfl rfl rfl rfl rfl rfl rfl ?_;clear H a S;intro A1 _ a hA1 S H
  refine list_append H rfl S sl_23 sz_3 ze_3 by_3 rfl rfl (i := 1) rfl rfl rfl (ownM.inS S (i := 0) rfl) (one_vs (one rfl)) (by omega) (by omega) ?_;clear H a S;intro A2 c2 _ a S H
  replace S := S.recell (i := 1) rfl (cell' := ncl (upd lq p (fstD (fun t => reached L2 (ndR T p t)) T d))) (fun k j hk hj => ncl_app rfl hk hj)
  refine ls 1 H <| sr 1 rfl <| sE ?_;clear H a;intro a H
  refine k14 _ _ ?_
  refine sO H <| sr 1 rfl <| sd (does_add rfl rfl (by unfold i64ok; omega)) <| sr 1 rfl <| sE ?_;clear H a;intro a H
  exact k11 (g1 - 1) (p + 1, _, _, _) a _ (by omega) (⟨by omega, by omega, fun q hq => by
    by_cases e : q = p
    · subst e; rw [upd_same, show d = T + 1 by omega, fstD_eq]
    · rw [upd_ne _ _ e]; exact hlq q (by omega)⟩) (S.sel [1, 2, 3, 4, 5, 6, 7, 8] rfl rfl) (H.keep [14, 15, 3, 4, 11, 12] rfl)
 refine wp_exit ?_
 refine k9 _ _ ?_
 replace H := H.keep [14] rfl
 refine sS H fun K28 k28=>sr 3 rfl <| sE ?_;clear H a;intro a H
 refine k28 _ ?_;clear k28 K28
 refine wp_ret ?_
 refine ret2 (fn := Try.f35) rfl H rfl rfl ?_
 obtain rfl : p = P := by omega
 replace S := S.recell (i := 0) rfl (cell' := ncl (mfc p T pe xs (hds out xs ps))) (fun k j hk hj => by unfold ncl; rw [hlq k hk, mfc_R hV hou.1 hpp hE2 hk])
 refine .inr ⟨hc1, ?_⟩
 rw [Int.toNat_natCast, Int.toNat_natCast]
 exact ⟨_, _, rfl, (S.sel [0] rfl rfl)⟩

theorem law_Crowded (pl : Int) (ps : List Psg) (PA : Option Addr) (pc : Nat) (xs : List Int) (XA : Option Addr) (xc : Nat) (pe : List Int) (BA : Option Addr) (bc : Nat) (T0 : Int) (w : World) (hps : InS w noF 7 PA ps.length (pcell ps)) (hpn : ps.length ≤ 9223372036854775807) (hxs : InS w noF 1 XA xs.length (icl xs)) (hxn : xs.length ≤ 9223372036854775807) (hpe : InS w noF 1 BA pe.length (icl pe)) (hpen : pe.length ≤ 9223372036854775807) :
    Calls Try.prog 28 [.agg [.int .i64 pl, .slice PA ps.length pc, .slice XA xs.length xc].toArray, .slice BA pe.length bc, .int .i64 T0].toArray w (Ret (fun u w' => ∃ b, u = .bool b ∧ (b = false → ps.length ≤ 26 ∧ pe.length ≤ 12) ∧ St w noF [] w')) := by
 refine enter Try.func28 rfl Try.ntmps28 rfl (fun a H => ?_)
 have S := St.start w
 refine seq_list fun K1 k1 => ?_
 refine list_box H rfl S rfl rfl ?_;clear H a S;intro b3 _ a hb3 hbw3 S H
 refine ls 1 H <| sr 1 rfl <| sE ?_;clear H a;intro a H
 refine k1 _ _ ?_;clear k1 K1
 refine wp_seq_k fun K2 k2 => ?_
 replace H := H.keep [1, 2, 3] rfl
 refine sS H fun K3 k3=>sf fo_25_1 rfl <| sl S 0 one_22 rfl rfl rfl <| sL sl_22 rfl <| sr 2 rfl <| sg 3 4 13 16 false rfl rfl (fun hg5 => sy hg5 <| sr 1 rfl <| sy hg5 <| sL sl_23 rfl <| sy hg5 <| sr 1 rfl <| sz 3 rfl rfl rfl) <| so rfl rfl rfl <| sE ?_;clear H a;intro a H
 refine k3 _ ?_;clear k3 K3
 refine cond_ H rfl (fun hc1 => ?_) (fun hc1 => ?_)
 ·skip
  try simp only [o1,o2,o3,o4,o5,o6,o7,o8,o9,oa] at hc1
  replace H := H.keep [] rfl
  refine sS H fun K4 k4=>sr 1 rfl <| sE ?_;clear H a;intro a H
  refine k4 _ ?_;clear k4 K4
  refine wp_ret ?_
  refine ret1 (fn := Try.f28) rfl H rfl ?_
  exact ⟨_, rfl, (fun h => by cases h), (S.sel [] rfl rfl)⟩
 try simp only [o1,o2,o3,o4,o5,o6,o7,o8,o9,oa] at hc1
 refine wp_skip ?_
 refine k2 _ _ ?_
 refine wp_seq_k fun K5 k5 => ?_
 refine seq_list fun K6 k6 => ?_
 refine ls 3 H <| sd ((does_loadBox agg_25 sz_25 rfl S (i := 0) rfl rfl)) <| sr 2 rfl <| sE ?_;clear H a;intro a H
 refine list_call H rfl rfl Try.func29 rfl rfl (ref_CheckLeave pl ps PA pc xs XA xc 0 pe BA bc T0 _ (hps.now S) hpn (hxs.now S) hxn (hpe.now S) hpen) ?_;clear H a
 rintro _ _ a ⟨rfl, S2⟩ H
 replace S := S.call S2;clear S2
 refine ls 1 H <| sr 1 rfl <| sE ?_;clear H a;intro a H
 refine k6 _ _ ?_;clear k6 K6
 refine condN H rfl (fun hc2 => ?_) (fun hc2 => ?_)
 ·skip
  refine sS H fun K7 k7=>sr 1 rfl <| sE ?_;clear H a;intro a H
  refine k7 _ ?_;clear k7 K7
  refine wp_ret ?_
  refine ret1 (fn := Try.f28) rfl H rfl ?_
  exact ⟨_, rfl, fun _ => ⟨by omega, by omega⟩, (S.sel [] rfl rfl)⟩
 obtain ⟨hst, hou, hcr, hti⟩ := leaveE_ok (show leaveE pl ps xs 0 pe T0 = 0 by omega)
 obtain ⟨hpp, hpl'⟩ := crowd_ok hcr
 refine wp_skip ?_
 refine k5 _ _ ?_
 refine sS H fun K8 k8=>sr 1 rfl <| sE ?_;clear H a;intro a H
 refine k8 _ ?_;clear k8 K8
 refine wp_seq_k fun K9 k9 => ?_
 refine sS H fun K10 k10=>sr 1 rfl <| sE ?_;clear H a;intro a H
 refine k10 _ ?_;clear k10 K10
 refine wp_block ?_
 refine loop_st (X := Nat) (R0 := _) [1, 2, 3] H rfl (fun k => [(7, .int .i64 (sumI pe k)), (8, .int .i64 (k : Int))]) (fun k => []) (fun g k => k ≤ pe.length ∧ g + k = pe.length) (pe.length) 0 ?_ (S.sel [0] rfl rfl) (H.keep [7, 8, 1, 2, 3] rfl) ?_
 · exact ⟨by omega, by omega⟩
 clear H S a
 intro g1 x1 a w1 hp S H K11 k11
 obtain ⟨k, rfl⟩ : ∃ y, y = x1 := ⟨_, rfl⟩
 refine wp_seq_k fun K12 k12 => ?_
 refine sS H fun K13 k13=>sr 2 rfl <| sL sl_23 rfl <| sr 1 rfl <| sE ?_;clear H a;intro a H
 refine k13 _ ?_;clear k13 K13
 refine condL H rfl (fun hc3 => ?_) (fun hc3 => ?_)
 ·skip
  refine wp_skip ?_
  refine k12 _ _ ?_
  refine wp_seq_k fun K14 k14 => ?_
  refine wp_block ?_
  have hsb := sum_bd hpp (by omega) (k := k) (by omega); have hsk := hpp k (by omega)
  replace H := H.keep [1, 2, 3, 7, 8] rfl
  refine sO H <| sr 3 rfl <| si sl_23 sz_3 rfl rfl (hpe.adr (by omega)) (by omega) <| slm one_3 rfl (hpe.rd S (by omega) (by omega)) <| sd (does_add rfl rfl (by unfold i64ok; omega)) <| sr 1 rfl <| sE ?_;clear H a;intro a H
  refine k14 _ _ ?_
  replace H := H.keep [1, 2, 3, 7, 8] rfl
  refine sO H <| sr 1 rfl <| sd (does_add rfl rfl (by unfold i64ok; omega)) <| sr 1 rfl <| sE ?_;clear H a;intro a H
  exact k11 (g1 - 1) (k + 1) a _ (by omega) (⟨by omega, by omega⟩) (S.sel [0] rfl rfl) (H.keep [7, 8, 1, 2, 3] rfl)
 refine wp_exit ?_
 refine k9 _ _ ?_
 replace H := H.keep [2, 3, 7] rfl
 refine sS H fun K17 k17=>sf fo_25_1 rfl <| sl S 0 one_22 rfl rfl rfl <| sL sl_22 rfl <| sr 2 rfl <| sg 2 4 39 41 false rfl rfl (fun hg5 => sy hg5 <| sr 1 rfl <| sy hg5 <| sr 1 rfl <| sz 2 rfl rfl rfl) <| so rfl rfl rfl <| sr 1 rfl <| sg 2 8 43 45 false rfl rfl (fun hg9 => sy hg9 <| sr 1 rfl <| sy hg9 <| sr 1 rfl <| sz 2 rfl rfl rfl) <| so rfl rfl rfl <| sr 1 rfl <| sE ?_;clear H a;intro a H
 refine k17 _ ?_;clear k17 K17
 refine wp_ret ?_
 refine ret1 (fn := Try.f28) rfl H rfl ?_
 exact ⟨_, rfl, fun _ => ⟨by omega, by omega⟩, (S.sel [] rfl rfl)⟩

end Go.Proofs.Ytlmddkekeoebcaa
