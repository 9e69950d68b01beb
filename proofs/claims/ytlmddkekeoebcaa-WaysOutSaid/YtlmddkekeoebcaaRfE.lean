/- RfE. Printed by gen.py. -/
import Derived.Test.YtlmddkekeoebcaaRfD
import Derived.Test.YtlmddkekeoebcaaWyL
namespace Go.Proofs.Ytlmddkekeoebcaa
open Go.RowKit
set_option linter.unusedVariables false
set_option linter.unusedSimpArgs false
set_option maxRecDepth 100000
set_option maxHeartbeats 4000000


theorem ref_IsBarrier (pl : Int) (ps : List Psg) (PA : Option Addr) (pc : Nat) (xs : List Int) (XA : Option Addr) (xc : Nat) (T0 : Int) (bl : List Int) (DA : Option Addr) (dc : Nat) (w : World) (hps : InS w noF 7 PA ps.length (pcell ps)) (hpn : ps.length ≤ 9223372036854775807) (hxs : InS w noF 1 XA xs.length (icl xs)) (hxn : xs.length ≤ 9223372036854775807) (hbar : InS w noF 1 DA bl.length (icl bl)) (hbn : bl.length ≤ 9223372036854775807) (hT0 : -1000 ≤ T0 ∧ T0 ≤ 1000) :
    Calls Try.prog 71 [.agg [.int .i64 pl, .slice PA ps.length pc, .slice XA xs.length xc].toArray, .int .i64 T0, .slice DA bl.length dc].toArray w (Ret (fun v w' => v = .bool (barOk pl T0 xs bl) ∧ St w noF [] w')) := by
 refine enter Try.func71 rfl Try.ntmps71 rfl (fun a H => ?_)
 have S := St.start w
 refine seq_list fun K1 k1 => ?_
 refine list_box H rfl S rfl rfl ?_;clear H a S;intro b3 _ a hb3 hbw3 S H
 refine ls 1 H <| sr 1 rfl <| sE ?_;clear H a;intro a H
 refine k1 _ _ ?_;clear k1 K1
 refine wp_seq_k fun K2 k2 => ?_
 refine sS H fun K3 k3=>sr 1 rfl <| sL sl_23 rfl <| sf fo_25_0 rfl <| sl S 0 one_3 rfl rfl rfl <| sr 1 rfl <| sE ?_;clear H a;intro a H
 refine k3 _ ?_;clear k3 K3
 refine condN H rfl (fun hc1 => ?_) (fun hc1 => ?_)
 ·skip
  refine sS H fun K4 k4=>sr 1 rfl <| sE ?_;clear H a;intro a H
  refine k4 _ ?_;clear k4 K4
  refine wp_ret ?_
  refine ret1 (fn := Try.f71) rfl H rfl ?_
  exact ⟨congrArg Value.bool (bar_len (by omega)).symm, (S.sel [] rfl rfl)⟩
 refine wp_skip ?_
 refine k2 _ _ ?_
 refine wp_seq_k fun K5 k5 => ?_
 refine sS H fun K6 k6=>sr 1 rfl <| sE ?_;clear H a;intro a H
 refine k6 _ ?_;clear k6 K6
 refine wp_block ?_
 refine loop_st (X := Nat) (R0 := _) [1, 2, 3] H rfl (fun k => [(7, .int .i64 (k : Int))]) (fun k => []) (fun g k => k ≤ bl.length ∧ g + k = bl.length ∧ allN (barAt T0 xs bl) k = true) (bl.length) 0 ?_ (S.sel [0] rfl rfl) (H.keep [7, 1, 2, 3] rfl) ?_
 · exact ⟨by omega, by omega, rfl⟩
 clear H S a
 intro g1 x1 a w1 hp S H K7 k7
 obtain ⟨k, rfl⟩ : ∃ y, y = x1 := ⟨_, rfl⟩
 refine wp_seq_k fun K8 k8 => ?_
 refine sS H fun K9 k9=>sr 2 rfl <| sL sl_23 rfl <| sr 1 rfl <| sE ?_;clear H a;intro a H
 refine k9 _ ?_;clear k9 K9
 refine condL H rfl (fun hc2 => ?_) (fun hc2 => ?_)
 ·skip
  refine wp_skip ?_
  refine k8 _ _ ?_
  refine wp_seq_k fun K10 k10 => ?_
  refine wp_block ?_
  replace H := H.keep [1, 2, 3, 7] rfl
  refine seq_list fun K11 k11 => ?_
  refine ls 6 H <| sr 2 rfl <| si sl_23 sz_3 rfl rfl (hbar.adr (by omega)) (by omega) <| slm one_3 rfl (hbar.rd S (by omega) (by omega)) <| sr 1 rfl <| sd (does_add rfl rfl (by unfold i64ok; omega)) <| sE ?_;clear H a;intro a H
  refine list_call H rfl rfl Try.func56 rfl rfl (ref_from _ _ _ _) ?_;clear H a
  rintro _ _ a ⟨rfl, rfl⟩ H
  refine ls 2 H <| sr 2 rfl <| sE ?_;clear H a;intro a H
  apply list_guard (i := 8) (g := 27) (t := 40) (b := false) 13 H S rfl rfl (by kernel_rfl) (by kernel_rfl) rfl rfl
  case h1 =>
   intro hg9
   have hq9 := hg9; try simp only [o1,o2,o3,o4,o5,o6,o7,o8,o9,oa] at hq9
   refine ls 3 H <| sy hg9 <| sf fo_25_2 rfl <| sy hg9 <| sl S 0 one_23 rfl rfl rfl <| sy hg9 <| sr 1 rfl <| sE ?_;intro a H
   refine list_yes' H rfl rfl (by assumption) ?_
   refine list_call H rfl rfl Try.func57 rfl rfl (ref_has xs XA xc _ _ (hxs.now S) hxn) ?_
   rintro _ _ a ⟨rfl, S2⟩ H
   replace S := S.call S2;clear S2
   refine ls 9 H <| sy hg9 <| sr 1 rfl <| sg 7 13 32 39 true rfl rfl (fun hg14 => by
       have hq14 := hg14;try simp only [o1,o2,o3,o4,o5,o6,o7,o8,o9,oa] at hq14
       exact sy hg14 <| sr 1 rfl <| sy hg14 <| sr 1 rfl <| sy hg14 <| si sl_23 sz_3 rfl rfl (hbar.adr (by omega)) (by omega) <| sy hg14 <| slm one_3 rfl (hbar.rd S (by omega) (by omega)) <| sy hg14 <| sr 1 rfl <| sy hg14 <| sd (does_add rfl rfl (by unfold i64ok; omega)) <| sy hg14 <| sr 1 rfl <| sz 7 rfl rfl rfl) <| sy hg9 <| sa rfl rfl rfl <| sE ?_;intro a H
   exact wpList_nil ⟨H.strip 7 rfl rfl, (S.sel [0] rfl rfl)⟩
  clear H a S;intro a _ H S
  refine ls 1 H <| so rfl rfl rfl <| sE ?_;clear H a;intro a H
  refine k11 _ _ ?_;clear k11 K11
  refine cond_ H rfl (fun hc3 => ?_) (fun hc3 => ?_)
  ·skip
   try simp only [o1,o2,o3,o4,o5,o6,o7,o8,o9,oa] at hc3
   replace H := H.keep [] rfl
   refine sS H fun K12 k12=>sr 1 rfl <| sE ?_;clear H a;intro a H
   refine k12 _ ?_;clear k12 K12
   refine wp_ret ?_
   refine ret1 (fn := Try.f71) rfl H rfl ?_
   exact ⟨congrArg Value.bool (bar_bad (k := k) (by omega) (barAt_f (by rcases hc3 with h | h; (exact .inl (by omega)); (exact .inr ⟨h.1, by omega⟩)))).symm, (S.sel [] rfl rfl)⟩
  try simp only [o1,o2,o3,o4,o5,o6,o7,o8,o9,oa] at hc3
  refine wp_skip ?_
  refine k10 _ _ ?_
  refine sO H <| sr 1 rfl <| sd (does_add rfl rfl (by unfold i64ok; omega)) <| sr 1 rfl <| sE ?_;clear H a;intro a H
  exact k7 (g1 - 1) (k + 1) a _ (by omega) (⟨by omega, by omega, allN_step hp.2.2 (barAt_t ⟨by omega, fun hx => by rcases hc3.2 with h | h; (rw [hx] at h; cases h); omega⟩)⟩) (S.sel [0] rfl rfl) (H.keep [7, 1, 2, 3] rfl)
 refine wp_exit ?_
 refine k5 _ _ ?_
 refine sS H fun K14 k14=>sr 1 rfl <| sE ?_;clear H a;intro a H
 refine k14 _ ?_;clear k14 K14
 refine wp_ret ?_
 refine ret1 (fn := Try.f71) rfl H rfl ?_
 obtain rfl : k = bl.length := by omega
 exact ⟨congrArg Value.bool (bar_all (by omega) hp.2.2).symm, (S.sel [] rfl rfl)⟩

theorem ref_Bound (pl : Int) (ps : List Psg) (PA : Option Addr) (pc : Nat) (xs : List Int) (XA : Option Addr) (xc : Nat) (out : Int) (pe : List Int) (BA : Option Addr) (bc : Nat) (T0 : Int) (bl : List Int) (DA : Option Addr) (dc : Nat) (w : World) (hps : InS w noF 7 PA ps.length (pcell ps)) (hpn : ps.length ≤ 9223372036854775807) (hxs : InS w noF 1 XA xs.length (icl xs)) (hxn : xs.length ≤ 9223372036854775807) (hpe : InS w noF 1 BA pe.length (icl pe)) (hpen : pe.length ≤ 9223372036854775807) (hbar : InS w noF 1 DA bl.length (icl bl)) (hbn : bl.length ≤ 9223372036854775807) :
    Calls Try.prog 34 [.agg [.int .i64 pl, .slice PA ps.length pc, .slice XA xs.length xc].toArray, .int .i64 out, .slice BA pe.length bc, .int .i64 T0, .slice DA bl.length dc].toArray w (Ret (fun u w' => u = .tuple #[.int .i64 (boundV pl ps xs out pe T0 bl).1, .int .i64 (boundV pl ps xs out pe T0 bl).2] ∧ St w noF [] w')) := by
 refine enter Try.func34 rfl Try.ntmps34 rfl (fun a H => ?_)
 have S := St.start w
 refine seq_list fun K1 k1 => ?_
 refine list_box H rfl S rfl rfl ?_;clear H a S;intro b5 _ a hb5 hbw5 S H
 refine ls 2 H <| sr 2 rfl <| sE ?_;clear H a;intro a H
 refine k1 _ _ ?_;clear k1 K1
 refine seq_list fun K2 k2 => ?_
 refine ls 4 H <| sd ((does_loadBox agg_25 sz_25 rfl S (i := 0) rfl rfl)) <| sr 3 rfl <| sE ?_;clear H a;intro a H
 refine list_call H rfl rfl Try.func29 rfl rfl (ref_CheckLeave pl ps PA pc xs XA xc out pe BA bc T0 _ (hps.now S) hpn (hxs.now S) hxn (hpe.now S) hpen) ?_;clear H a
 rintro _ _ a ⟨rfl, S2⟩ H
 replace S := S.call S2;clear S2
 refine ls 1 H <| sr 1 rfl <| sE ?_;clear H a;intro a H
 refine k2 _ _ ?_;clear k2 K2
 refine wp_seq_k fun K3 k3 => ?_
 replace H := H.keep [1, 2, 3, 4, 5, 12] rfl
 refine sS H fun K4 k4=>sr 2 rfl <| sE ?_;clear H a;intro a H
 refine k4 _ ?_;clear k4 K4
 refine condN H rfl (fun hc1 => ?_) (fun hc1 => ?_)
 ·skip
  refine sS H fun K5 k5=>sr 3 rfl <| sE ?_;clear H a;intro a H
  refine k5 _ ?_;clear k5 K5
  refine wp_ret ?_
  refine ret2 (fn := Try.f34) rfl H rfl rfl ?_
  rw [bound_err hc1]
  exact ⟨rfl, (S.sel [] rfl rfl)⟩
 obtain ⟨hst, hou, hcr, hti⟩ := leaveE_ok hc1
 have hV0 := st_valid hst
 obtain ⟨P, rfl⟩ : ∃ P : Nat, pl = P := ⟨pl.toNat, by have := hV0.size; omega⟩
 have hV := hV0
 obtain ⟨hpp, hpl'⟩ := crowd_ok hcr
 have hpl : pe.length = P := by omega
 obtain ⟨T, rfl⟩ : ∃ T : Nat, T0 = T := ⟨T0.toNat, by omega⟩
 have hT : T ≤ 60 := by omega
 have hP10 := hV.size
 refine wp_skip ?_
 refine k3 _ _ ?_
 refine wp_seq_k fun K6 k6 => ?_
 replace H := H.keep [1, 2, 3, 4, 5] rfl
 refine seq_list fun K7 k7 => ?_
 refine ls 3 H <| sd ((does_loadBox agg_25 sz_25 rfl S (i := 0) rfl rfl)) <| sr 2 rfl <| sE ?_;clear H a;intro a H
 refine list_call H rfl rfl Try.func71 rfl rfl (ref_IsBarrier P ps PA pc xs XA xc T bl DA dc _ (hps.now S) hpn (hxs.now S) hxn (hbar.now S) hbn (by omega)) ?_;clear H a
 rintro _ _ a ⟨rfl, S2⟩ H
 replace S := S.call S2;clear S2
 refine ls 1 H <| sr 1 rfl <| sE ?_;clear H a;intro a H
 refine k7 _ _ ?_;clear k7 K7
 refine cond_ H rfl (fun hc2 => ?_) (fun hc2 => ?_)
 ·skip
  try simp only [o1,o2,o3,o4,o5,o6,o7,o8,o9,oa] at hc2
  refine sS H fun K8 k8=>sr 2 rfl <| sE ?_;clear H a;intro a H
  refine k8 _ ?_;clear k8 K8
  refine wp_ret ?_
  refine ret2 (fn := Try.f34) rfl H rfl rfl ?_
  rw [bound_bad hc1 hc2]
  exact ⟨rfl, (S.sel [] rfl rfl)⟩
 try simp only [o1,o2,o3,o4,o5,o6,o7,o8,o9,oa] at hc2
 have hbk := (barOk_ok hc2).2
 have hPl : bl.length = P := by have := (barOk_ok hc2).1; omega
 have hbx : ∀ p, p < P → hasI xs p = true → bl.getD p 0 = (T : Int) + 1 := fun p hp hx => (hbk p (by omega)).2 hx
 refine wp_skip ?_
 refine k6 _ _ ?_
 refine sS H fun K9 k9=>sr 1 rfl <| sE ?_;clear H a;intro a H
 refine k9 _ ?_;clear k9 K9
 refine wp_seq_k fun K10 k10 => ?_
 refine sS H fun K11 k11=>sr 1 rfl <| sE ?_;clear H a;intro a H
 refine k11 _ ?_;clear k11 K11
 refine wp_block ?_
 refine loop_st (X := Nat) (R0 := _) [1, 2, 3, 4, 5] H rfl (fun k => [(13, .int .i64 (begC (barU bl) pe k)), (14, .int .i64 (k : Int))]) (fun k => []) (fun g k => k ≤ P ∧ g + k = P) (P) 0 ?_ (S.sel [0] rfl rfl) (H.keep [13, 14, 1, 2, 3, 4, 5] rfl) ?_
 · exact ⟨by omega, by omega⟩
 clear H S a
 intro g1 x1 a w1 hp S H K12 k12
 obtain ⟨k, rfl⟩ : ∃ y, y = x1 := ⟨_, rfl⟩
 refine wp_seq_k fun K13 k13 => ?_
 refine sS H fun K14 k14=>sr 1 rfl <| sf fo_25_0 rfl <| sl S 0 one_3 rfl rfl rfl <| sr 1 rfl <| sE ?_;clear H a;intro a H
 refine k14 _ ?_;clear k14 K14
 refine condL H rfl (fun hc3 => ?_) (fun hc3 => ?_)
 ·skip
  refine wp_skip ?_
  refine k13 _ _ ?_
  refine wp_seq_k fun K15 k15 => ?_
  refine wp_block ?_
  refine sS H fun K16 k16=>sr 2 rfl <| si sl_23 sz_3 rfl rfl (hbar.adr (by omega)) (by omega) <| slm one_3 rfl (hbar.rd S (by omega) (by omega)) <| sr 1 rfl <| sE ?_;clear H a;intro a H
  refine k16 _ ?_;clear k16 K16
  refine condL H rfl (fun hc4 => ?_) (fun hc4 => ?_)
  ·skip
   have hbn5 := beg_next (bl := bl) (pe := pe) (k := k)
   rw [if_pos hc4] at hbn5
   have hpk := hpp k (by omega)
   have hbb := begC_bd (U := (barU bl)) hpp k
   replace H := H.keep [1, 2, 3, 4, 5, 13, 14] rfl
   refine sO H <| sr 3 rfl <| si sl_23 sz_3 rfl rfl (hpe.adr (by omega)) (by omega) <| slm one_3 rfl (hpe.rd S (by omega) (by omega)) <| sd (does_add rfl rfl (by unfold i64ok; omega)) <| sr 1 rfl <| sE ?_;clear H a;intro a H
   refine k15 _ _ ?_
   replace H := H.keep [1, 2, 3, 4, 5, 13, 14] rfl
   refine sO H <| sr 1 rfl <| sd (does_add rfl rfl (by unfold i64ok; omega)) <| sr 1 rfl <| sE ?_;clear H a;intro a H
   rw [← hbn5] at H
   exact k12 (g1 - 1) (k + 1) a _ (by omega) (⟨by omega, by omega⟩) (S.sel [0] rfl rfl) (H.keep [13, 14, 1, 2, 3, 4, 5] rfl)
  have hbn5 := beg_next (bl := bl) (pe := pe) (k := k)
  rw [if_neg (by omega), Int.add_zero] at hbn5
  refine wp_skip ?_
  refine k15 _ _ ?_
  refine sO H <| sr 1 rfl <| sd (does_add rfl rfl (by unfold i64ok; omega)) <| sr 1 rfl <| sE ?_;clear H a;intro a H
  rw [← hbn5] at H
  exact k12 (g1 - 1) (k + 1) a _ (by omega) (⟨by omega, by omega⟩) (S.sel [0] rfl rfl) (H.keep [13, 14, 1, 2, 3, 4, 5] rfl)
 refine wp_exit ?_
 refine k10 _ _ ?_
 refine wp_seq_k fun K20 k20 => ?_
 refine sS H fun K21 k21=>sr 1 rfl <| sE ?_;clear H a;intro a H
 refine k21 _ ?_;clear k21 K21
 refine wp_block ?_
 obtain rfl : P = k := by omega
 have hbb := begC_bd (U := (barU bl)) hpp P
 refine loop_st (X := Nat × Int) (R0 := _) [1, 3, 4, 5] H rfl (fun ⟨t, n⟩ => [(13, .int .i64 n), (15, .int .i64 (t : Int))]) (fun ⟨t, n⟩ => []) (fun g ⟨t, n⟩ => t ≤ T + 1 ∧ g + t = T + 1 ∧ n = begC (barU bl) pe P + sm (fun t => sm (fun i => pC (barU bl) T xs out (ps.getD i Psg.zero) t 0 + pC (barU bl) T xs out (ps.getD i Psg.zero) t 1) ps.length) t ∧ 0 ≤ n ∧ n ≤ 10000 + 2400 * (t : Int)) (T + 1) (0, begC (barU bl) pe P) ?_ (S.sel [0] rfl rfl) (H.keep [13, 15, 1, 3, 4, 5] rfl) ?_
 · exact ⟨by omega, by omega, (Int.add_zero _).symm, by omega, by omega⟩
 clear H S a
 intro g2 x2 a w2 hp S H K22 k22
 obtain ⟨t, n⟩ := x2
 dsimp only at hp S H
 obtain ⟨htT, hgt, hn2, hn0, hn1⟩ := hp
 refine wp_seq_k fun K23 k23 => ?_
 refine sS H fun K24 k24=>sr 3 rfl <| sE ?_;clear H a;intro a H
 refine k24 _ ?_;clear k24 K24
 refine condG H rfl (fun hc5 => ?_) (fun hc5 => ?_)
 ·skip
  refine wp_skip ?_
  refine k23 _ _ ?_
  refine wp_seq_k fun K25 k25 => ?_
  refine wp_block ?_
  refine sS H fun K26 k26=>sr 1 rfl <| sE ?_;clear H a;intro a H
  refine k26 _ ?_;clear k26 K26
  refine wp_block ?_
  refine loop_st (X := Nat × Int) (R0 := _) [1, 3, 4, 5, 15] H rfl (fun ⟨i, n3⟩ => [(13, .int .i64 n3), (16, .int .i64 (i : Int))]) (fun ⟨i, n3⟩ => []) (fun g ⟨i, n3⟩ => i ≤ ps.length ∧ g + i = ps.length ∧ n3 = begC (barU bl) pe P + sm (fun t => sm (fun i => pC (barU bl) T xs out (ps.getD i Psg.zero) t 0 + pC (barU bl) T xs out (ps.getD i Psg.zero) t 1) ps.length) t + sm (fun i => pC (barU bl) T xs out (ps.getD i Psg.zero) t 0 + pC (barU bl) T xs out (ps.getD i Psg.zero) t 1) i ∧ 0 ≤ n3 ∧ n3 ≤ 10000 + 2400 * (t : Int) + 100 * (i : Int)) (ps.length) (0, n) ?_ (S.sel [0] rfl rfl) (H.keep [13, 16, 1, 3, 4, 5, 15] rfl) ?_
  · exact ⟨by omega, by omega, by (have h9 : sm (fun i => pC (barU bl) T xs out (ps.getD i Psg.zero) t 0 + pC (barU bl) T xs out (ps.getD i Psg.zero) t 1) 0 = 0 := rfl); rw [h9]; omega, by omega, by omega⟩
  clear H S a
  intro g3 x3 a w3 hp S H K27 k27
  obtain ⟨i, n3⟩ := x3
  dsimp only at hp S H
  obtain ⟨hil, hgi, hn3, hn30, hn31⟩ := hp
  refine wp_seq_k fun K28 k28 => ?_
  refine sS H fun K29 k29=>sr 1 rfl <| sf fo_25_1 rfl <| sl S 0 one_22 rfl rfl rfl <| sL sl_22 rfl <| sr 1 rfl <| sE ?_;clear H a;intro a H
  refine k29 _ ?_;clear k29 K29
  refine condL H rfl (fun hc6 => ?_) (fun hc6 => ?_)
  ·skip
   refine wp_skip ?_
   refine k28 _ _ ?_
   refine wp_seq_k fun K30 k30 => ?_
   refine wp_block ?_
   replace H := H.keep [1, 3, 4, 5, 13, 15, 16] rfl
   refine seq_list fun K31 k31 => ?_
   refine ls 5 H <| sf fo_25_1 rfl <| sl S 0 one_22 rfl rfl rfl <| sr 1 rfl <| si sl_22 sz_45 rfl rfl (hps.adr (by omega)) (by omega) <| sd ((does_loadIn agg_45 sz_45 rfl S hps (by omega) (by omega))) <| sE ?_;clear H a;intro a H
   refine list_alloc H rfl S ze_45 ?_;clear H a S;intro b17 _ a hb17 hbw17 S H
   refine list_store H S (i := 0) rfl rfl rfl rfl sz_45 rfl rfl ?_
   clear H a S;intro _ a S H
   refine k31 _ _ ?_;clear k31 K31
   replace H := H.keep [1, 3, 4, 5, 13, 15, 16, 17] rfl
   refine seq_list fun K32 k32 => ?_
   refine ls 4 H <| sf fo_45_0 rfl <| sl S 0 one_3 rfl rfl rfl <| sf fo_45_1 rfl <| sl S 0 one_3 rfl rfl rfl <| sE ?_;clear H a;intro a H
   refine list_build' H rfl S sl_23 sz_3 ze_3 rfl rfl rfl rfl rfl rfl rfl rfl rfl ?_;clear H a S;intro A1 _ a hA1 S H
   replace S := S.recell (i := 0) rfl (cell' := ecl (ps.getD i Psg.zero)) (fun k j hk hj => ecl_two k j hk hj)
   refine ls 1 H <| sr 1 rfl <| sE ?_;clear H a;intro a H
   refine k32 _ _ ?_;clear k32 K32
   refine sS H fun K33 k33=>sr 1 rfl <| sE ?_;clear H a;intro a H
   refine k33 _ ?_;clear k33 K33
   refine wp_block ?_
   refine loop_st (X := Nat × Int) (R0 := _) [1, 3, 4, 5, 15, 16, 17, 18] H rfl (fun ⟨k, n4⟩ => [(13, .int .i64 n4), (19, .int .i64 (k : Int))]) (fun ⟨k, n4⟩ => []) (fun g ⟨k, n4⟩ => k ≤ 2 ∧ g + k = 2 ∧ n4 = begC (barU bl) pe P + sm (fun t => sm (fun i => pC (barU bl) T xs out (ps.getD i Psg.zero) t 0 + pC (barU bl) T xs out (ps.getD i Psg.zero) t 1) ps.length) t + sm (fun i => pC (barU bl) T xs out (ps.getD i Psg.zero) t 0 + pC (barU bl) T xs out (ps.getD i Psg.zero) t 1) i + sm (fun k => pC (barU bl) T xs out (ps.getD i Psg.zero) t k) k ∧ 0 ≤ n4 ∧ n4 ≤ 10000 + 2400 * (t : Int) + 100 * (i : Int) + 50 * (k : Int)) (2) (0, n3) ?_ (S.sel [0, 1, 2] rfl rfl) (H.keep [13, 19, 1, 3, 4, 5, 15, 16, 17, 18] rfl) ?_
   · exact ⟨by omega, by omega, by (have h9 : sm (fun k => pC (barU bl) T xs out (ps.getD i Psg.zero) t k) 0 = 0 := rfl); rw [h9]; omega, by omega, by omega⟩
   clear H S a
   intro g4 x4 a w4 hp S H K34 k34
   obtain ⟨k, n4⟩ := x4
   dsimp only at hp S H
   obtain ⟨hk2, hgk, hn4, hn40, hn41⟩ := hp
   refine wp_seq_k fun K35 k35 => ?_
   refine sS H fun K36 k36=>sr 2 rfl <| sE ?_;clear H a;intro a H
   refine k36 _ ?_;clear k36 K36
   refine condL H rfl (fun hc7 => ?_) (fun hc7 => ?_)
   ·skip
    refine wp_skip ?_
    refine k35 _ _ ?_
    refine wp_seq_k fun K37 k37 => ?_
    refine wp_block ?_
    have hpi := psgOk_iff.1 (hV.pas i (by omega))
    have he0 : 0 ≤ endI (ps.getD i Psg.zero) k ∧ endI (ps.getD i Psg.zero) k < P := by unfold endI; split <;> omega
    have he1 : 0 ≤ endI (ps.getD i Psg.zero) (1 - k) ∧ endI (ps.getD i Psg.zero) (1 - k) < P := by unfold endI; split <;> omega
    have hgb := gone_bd (out := out) hV (show i < ps.length by omega) k
    replace H := H.keep [1, 3, 4, 5, 13, 15, 16, 17, 18, 19] rfl
    replace S := S.drew
    refine seq_wq [(0, true), (1, true), (2, true), (3, true), (4, true), (5, true), (6, false), (7, true)] (by kernel_rfl) (by kernel_rfl) (S.sel [0, 1, 2] rfl rfl) fun K38 k38 => ?_
    refine qF H <| qd rfl (fun _ S => (does_loadBox agg_45 sz_45 rfl S (i := 1) rfl rfl)) <| qr 3 rfl <| qd rfl (fun _ S => does_indexN sl_23 sz_3 rfl rfl (ownM.adr S (i := 0) rfl (by omega)) (by omega)) <| qd rfl (fun _ S => does_load one_3 rfl (ownM.rd S (i := 0) rfl (by omega) (by omega))) <| qK ?_;clear H a;intro a H
    refine wq_eff rfl ?_
    refine list_call H rfl rfl Try.func70 rfl rfl (ref_Gone (ps.getD i Psg.zero) out (endI (ps.getD i Psg.zero) k) _ (fun h3 => by have := psgOk_iff.1 (hV.pas i (by omega)); omega)) ?_;clear H a
    rintro _ _ a ⟨rfl, S2⟩ H
    replace S := S.call S2;clear S2
    refine wpList_nil (And.intro (S.sel [0, 1, 2] rfl rfl) ?_)
    refine qF H <| qr 1 rfl <| qK ?_;clear H a;intro a H
    refine wq_nil ?_
    refine k38 _ _ ?_
    clear k38 K38
    replace H := H.keep [1, 3, 4, 5, 13, 15, 16, 17, 18, 19, 20] rfl
    refine sS H fun K39 k39=>sr 3 rfl <| sg 9 2 86 95 true rfl rfl (fun hg3 => by
        have hq3 := hg3;try simp only [o1,o2,o3,o4,o5,o6,o7,o8,o9,oa] at hq3
        exact sy hg3 <| sr 1 rfl <| sy hg3 <| sr 1 rfl <| sy hg3 <| sr 1 rfl <| sy hg3 <| si sl_23 sz_3 rfl rfl (ownM.adr S (i := 0) rfl (by omega)) (by omega) <| sy hg3 <| slm one_3 rfl (ownM.rd S (i := 0) rfl (by omega) (by omega)) <| sy hg3 <| sI sl_23 sz_3 rfl rfl (hbar.adr (by omega)) (by omega) (by omega) <| sy hg3 <| slm one_3 rfl (hbar.rd S (by omega) (by omega)) <| sy hg3 <| sr 1 rfl <| sy hg3 <| sr 1 rfl <| sz 9 rfl rfl rfl) <| sa rfl rfl rfl <| sr 1 rfl <| sg 5 13 97 102 true rfl rfl (fun hg14 => by
        have hq14 := hg14;try simp only [o1,o2,o3,o4,o5,o6,o7,o8,o9,oa] at hq14
        exact sy hg14 <| sr 1 rfl <| sy hg14 <| sr 1 rfl <| sy hg14 <| sd (does_add rfl rfl (by unfold i64ok; omega)) <| sy hg14 <| sr 1 rfl <| sy hg14 <| sr 1 rfl <| sz 5 rfl rfl rfl) <| sa rfl rfl rfl <| sr 1 rfl <| sg 12 20 104 116 true rfl rfl (fun hg21 => by
        have hq21 := hg21;try simp only [o1,o2,o3,o4,o5,o6,o7,o8,o9,oa] at hq21
        exact sy hg21 <| sr 1 rfl <| sy hg21 <| sr 1 rfl <| sy hg21 <| sr 1 rfl <| sy hg21 <| sd ((does_sub rfl rfl (by unfold i64ok; omega)).to (v' := .int .i64 ((1 - k : Nat) : Int)) (by congr 1; omega)) <| sy hg21 <| si sl_23 sz_3 rfl rfl (ownM.adr S (i := 0) rfl (by omega)) (by omega) <| sy hg21 <| slm one_3 rfl (ownM.rd S (i := 0) rfl (by omega) (by omega)) <| sy hg21 <| sI sl_23 sz_3 rfl rfl (hbar.adr (by omega)) (by omega) (by omega) <| sy hg21 <| slm one_3 rfl (hbar.rd S (by omega) (by omega)) <| sy hg21 <| sr 1 rfl <| sy hg21 <| sr 1 rfl <| sy hg21 <| sd (does_add rfl rfl (by unfold i64ok; omega)) <| sy hg21 <| sr 1 rfl <| sz 12 rfl rfl rfl) <| sa rfl rfl rfl <| sE ?_;clear H a;intro a H
    refine k39 _ ?_;clear k39 K39
    refine cond_ H rfl (fun hc8 => ?_) (fun hc8 => ?_)
    ·skip
     try simp only [o1,o2,o3,o4,o5,o6,o7,o8,o9,oa] at hc8
     have hpc := pC_bar (bl := bl) (T := T) (xs := xs) (out := out) hV hbx (show i < ps.length by omega) (t := t) (k := k) (by omega)
     rw [if_pos hc8] at hpc
     have h9 : sm (fun k => pC (barU bl) T xs out (ps.getD i Psg.zero) t k) (k + 1) = sm (fun k => pC (barU bl) T xs out (ps.getD i Psg.zero) t k) k + pC (barU bl) T xs out (ps.getD i Psg.zero) t k := rfl
     replace H := H.keep [1, 3, 4, 5, 13, 15, 16, 17, 18, 19] rfl
     refine sO H <| sr 1 rfl <| sf fo_45_4 rfl <| sl S 1 one_3 rfl rfl rfl <| sd (does_add rfl rfl (by unfold i64ok; omega)) <| sr 1 rfl <| sE ?_;clear H a;intro a H
     refine k37 _ _ ?_
     refine sO H <| sr 1 rfl <| sd (does_add rfl rfl (by unfold i64ok; omega)) <| sr 1 rfl <| sE ?_;clear H a;intro a H
     exact k34 (g4 - 1) (k + 1, _) a _ (by omega) (⟨by omega, by omega, by rw [h9, hpc]; omega, by omega, by omega⟩) (S.sel [0, 1, 2] rfl rfl) (H.keep [13, 19, 1, 3, 4, 5, 15, 16, 17, 18] rfl)
    try simp only [o1,o2,o3,o4,o5,o6,o7,o8,o9,oa] at hc8
    have hpc := pC_bar (bl := bl) (T := T) (xs := xs) (out := out) hV hbx (show i < ps.length by omega) (t := t) (k := k) (by omega)
    rw [if_neg (by omega)] at hpc
    have h9 : sm (fun k => pC (barU bl) T xs out (ps.getD i Psg.zero) t k) (k + 1) = sm (fun k => pC (barU bl) T xs out (ps.getD i Psg.zero) t k) k + pC (barU bl) T xs out (ps.getD i Psg.zero) t k := rfl
    refine wp_skip ?_
    refine k37 _ _ ?_
    replace H := H.keep [1, 3, 4, 5, 13, 15, 16, 17, 18, 19] rfl
    refine sO H <| sr 1 rfl <| sd (does_add rfl rfl (by unfold i64ok; omega)) <| sr 1 rfl <| sE ?_;clear H a;intro a H
    exact k34 (g4 - 1) (k + 1, _) a _ (by omega) (⟨by omega, by omega, by rw [h9, hpc]; omega, by omega, by omega⟩) (S.sel [0, 1, 2] rfl rfl) (H.keep [13, 19, 1, 3, 4, 5, 15, 16, 17, 18] rfl)
   refine wp_exit ?_
   refine k30 _ _ ?_
   refine sO H <| sr 1 rfl <| sd (does_add rfl rfl (by unfold i64ok; omega)) <| sr 1 rfl <| sE ?_;clear H a;intro a H
   exact k27 (g3 - 1) (i + 1, n4) a _ (by omega) (⟨by omega, by omega, by (obtain rfl : k = 2 := by omega); have h9 : sm (fun i => pC (barU bl) T xs out (ps.getD i Psg.zero) t 0 + pC (barU bl) T xs out (ps.getD i Psg.zero) t 1) (i + 1) = sm (fun i => pC (barU bl) T xs out (ps.getD i Psg.zero) t 0 + pC (barU bl) T xs out (ps.getD i Psg.zero) t 1) i + (pC (barU bl) T xs out (ps.getD i Psg.zero) t 0 + pC (barU bl) T xs out (ps.getD i Psg.zero) t 1) := rfl; have h8 : sm (fun k => pC (barU bl) T xs out (ps.getD i Psg.zero) t k) 2 = (0 + pC (barU bl) T xs out (ps.getD i Psg.zero) t 0) + pC (barU bl) T xs out (ps.getD i Psg.zero) t 1 := rfl; rw [h9]; rw [h8] at hn4; omega, by omega, by omega⟩) (S.sel [2] rfl rfl) (H.keep [13, 16, 1, 3, 4, 5, 15] rfl)
  refine wp_exit ?_
  refine k25 _ _ ?_
  refine sO H <| sr 1 rfl <| sd (does_add rfl rfl (by unfold i64ok; omega)) <| sr 1 rfl <| sE ?_;clear H a;intro a H
  exact k22 (g2 - 1) (t + 1, n3) a _ (by omega) (⟨by omega, by omega, by (obtain rfl : i = ps.length := by omega); have h9 : sm (fun t => sm (fun i => pC (barU bl) T xs out (ps.getD i Psg.zero) t 0 + pC (barU bl) T xs out (ps.getD i Psg.zero) t 1) ps.length) (t + 1) = sm (fun t => sm (fun i => pC (barU bl) T xs out (ps.getD i Psg.zero) t 0 + pC (barU bl) T xs out (ps.getD i Psg.zero) t 1) ps.length) t + sm (fun i => pC (barU bl) T xs out (ps.getD i Psg.zero) t 0 + pC (barU bl) T xs out (ps.getD i Psg.zero) t 1) ps.length := rfl; rw [h9]; omega, by omega, by omega⟩) (S.sel [0] rfl rfl) (H.keep [13, 15, 1, 3, 4, 5] rfl)
 refine wp_exit ?_
 refine k20 _ _ ?_
 replace H := H.keep [13] rfl
 refine sS H fun K45 k45=>sr 3 rfl <| sE ?_;clear H a;intro a H
 refine k45 _ ?_;clear k45 K45
 refine wp_ret ?_
 refine ret2 (fn := Try.f34) rfl H rfl rfl ?_
 obtain rfl : t = T + 1 := by omega
 rw [bound_ok hc1 hc2]
 refine ⟨?_, (S.sel [] rfl rfl)⟩
 rw [hn2]
 rfl

end Go.Proofs.Ytlmddkekeoebcaa
