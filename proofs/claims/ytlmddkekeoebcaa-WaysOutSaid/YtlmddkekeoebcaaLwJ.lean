/- LwJ. Printed by gen.py. -/
import Derived.Test.YtlmddkekeoebcaaLwG
import Derived.Test.YtlmddkekeoebcaaWyN
import Derived.Test.YtlmddkekeoebcaaRfG
import Derived.Test.YtlmddkekeoebcaaRfE
namespace Go.Proofs.Ytlmddkekeoebcaa
open Go.RowKit
set_option linter.unusedVariables false
set_option linter.unusedSimpArgs false
set_option maxRecDepth 100000
set_option maxHeartbeats 4000000


theorem cut_C (P : Nat) (ps : List Psg) (PA : Option Addr) (pc : Nat) (xs : List Int) (XA : Option Addr) (xc : Nat) (out : Int) (pe : List Int) (BA : Option Addr) (bc : Nat)  (T : Nat) (w : World) (hps : InS w noF 7 PA ps.length (pcell ps)) (hpn : ps.length ≤ 9223372036854775807) (hxs : InS w noF 1 XA xs.length (icl xs)) (hxn : xs.length ≤ 9223372036854775807) (hpe : InS w noF 1 BA pe.length (icl pe)) (hpen : pe.length ≤ 9223372036854775807)  (hl : leaveE P ps xs out pe T = 0) : Calls Try.prog 32 [.agg [.int .i64 (P : Int), .slice PA ps.length pc, .slice XA xs.length xc].toArray, .int .i64 out, .slice BA pe.length bc, .int .i64 (T : Int)].toArray w (Ret fun u w' => ∃ A c, u = .tuple #[.slice A (cutL P T pe xs (hds out xs ps)).length c, .int .i64 0] ∧ St w noF [ownM 3 1 A (cutL P T pe xs (hds out xs ps)).length c (icl (cutL P T pe xs (hds out xs ps)))] w') := by
  have h := ways_Cut P ps PA pc xs XA xc out pe BA bc T w hps hpn hxs hxn hpe hpen
  refine ret_imp h fun u w' h => ?_
  rcases h with ⟨h0, _⟩ | ⟨_, A, c, rfl, S⟩
  · exact absurd hl h0
  · rw [Int.toNat_natCast, Int.toNat_natCast] at S
    rw [Int.toNat_natCast, cutL_len]
    refine ⟨A, c, rfl, S.recell (i := 0) rfl fun k j hk hj => ?_⟩
    unfold ncl icl
    rw [cutL_at hk]
theorem plan_C (P : Nat) (ps : List Psg) (PA : Option Addr) (pc : Nat) (xs : List Int) (XA : Option Addr) (xc : Nat) (out : Int) (pe : List Int) (BA : Option Addr) (bc : Nat)  (T : Nat) (w : World) (hps : InS w noF 7 PA ps.length (pcell ps)) (hpn : ps.length ≤ 9223372036854775807) (hxs : InS w noF 1 XA xs.length (icl xs)) (hxn : xs.length ≤ 9223372036854775807) (hpe : InS w noF 1 BA pe.length (icl pe)) (hpen : pe.length ≤ 9223372036854775807)  (hl : leaveE P ps xs out pe T = 0) : Calls Try.prog 31 [.agg [.int .i64 (P : Int), .slice PA ps.length pc, .slice XA xs.length xc].toArray, .int .i64 out, .slice BA pe.length bc, .int .i64 (T : Int)].toArray w (Ret fun u w' => ∃ l A c, (u = .tuple #[.slice A (List.length l) c, .int .i64 0] ∧ (planB ps xs out pe l P = true ∧ outN ps xs out pe l P T = mfv P T pe xs (hds out xs ps) ∧ List.length l ≤ 2928 ∧ ∀ k, k < List.length l → (List.getD l k Mv.zero).at_ ≤ T)) ∧ St w noF [ownM 76 4 A l.length c (mvcell l)] w') := by
  have h := ways_Plan P ps PA pc xs XA xc out pe BA bc T w hps hpn hxs hxn hpe hpen
  refine ret_imp h fun u w' h => ?_
  rcases h with ⟨h0, _⟩ | ⟨_, l, A, c, ⟨h1, h2⟩, S⟩
  · exact absurd hl h0
  · rw [Int.toNat_natCast, Int.toNat_natCast] at h2
    exact ⟨l, A, c, ⟨h1, h2⟩, S⟩
theorem out_ex {P T : Nat} {ps : List Psg} {xs : List Int} {out : Int} {pe : List Int} {l : List Mv} (hl : leaveE P ps xs out pe T = 0) (h : l.length ≤ 3000) : ∃ n e : Int, outV P ps xs out pe T l = (n, e) ∧ (e = 0 → n ≤ mfv P T pe xs (hds out xs ps)) := by
  obtain ⟨hst, hou, hcr, hti⟩ := leaveE_ok hl
  cases hb : planB ps xs out pe l P with
  | false => exact ⟨0, 83, outV_bad hl h hb, fun h => by cases h⟩
  | true => exact ⟨_, 0, outV_ok hl h hb, fun _ => plan_le (st_valid hst) hou.1 (crowd_ok hcr).1 (by omega) hb⟩
theorem bound_ex {P T : Nat} {ps : List Psg} {xs : List Int} {out : Int} {pe bl : List Int} (hl : leaveE P ps xs out pe T = 0) : ∃ n e : Int, boundV P ps xs out pe T bl = (n, e) ∧ (e = 0 → barOk P T xs bl = true ∧ n = bndV P T ps xs out pe bl) := by
  cases hb : barOk P T xs bl with
  | false => exact ⟨0, 1, bound_bad hl hb, fun h => by cases h⟩
  | true => exact ⟨_, 0, bound_ok hl hb, fun _ => ⟨rfl, rfl⟩⟩


theorem law_WaysOut (pl : Int) (ps : List Psg) (PA : Option Addr) (pc : Nat) (xs : List Int) (XA : Option Addr) (xc : Nat) (out : Int) (pe : List Int) (BA : Option Addr) (bc : Nat) (T0 : Int) (l : List Mv) (MA : Option Addr) (mc : Nat) (bl : List Int) (DA : Option Addr) (dc : Nat) (w : World) (hps : InS w noF 7 PA ps.length (pcell ps)) (hpn8 : 56 * ps.length ≤ 140737488355328) (hxs : InS w noF 1 XA xs.length (icl xs)) (hxn8 : 8 * xs.length ≤ 140737488355328) (hpe : InS w noF 1 BA pe.length (icl pe)) (hpe8 : 8 * pe.length ≤ 140737488355328) (hml : InS w noF 4 MA l.length (mvcell l)) (hml8 : 32 * l.length ≤ 140737488355328) (hbar : InS w noF 1 DA bl.length (icl bl)) (hbl8 : 8 * bl.length ≤ 140737488355328) :
    Calls Try.prog 6 [.agg [.int .i64 pl, .slice PA ps.length pc, .slice XA xs.length xc].toArray, .agg [.int .i64 out, .slice BA pe.length bc, .int .i64 T0].toArray, .agg [.slice MA l.length mc, .slice DA bl.length dc].toArray].toArray w (Ret (fun u w' => u = .bool true ∧ St w noF [] w')) := by
 have hpn : ps.length ≤ 9223372036854775807 := by omega
 have hxn : xs.length ≤ 9223372036854775807 := by omega
 have hpen : pe.length ≤ 9223372036854775807 := by omega
 have hmn : l.length ≤ 9223372036854775807 := by omega
 have hbn : bl.length ≤ 9223372036854775807 := by omega
 refine enter Try.func6 rfl Try.ntmps6 rfl (fun a H => ?_)
 have S := St.start w
 refine seq_list fun K1 k1 => ?_
 refine list_box H rfl S rfl rfl ?_;clear H a S;intro b3 _ a hb3 hbw3 S H
 refine list_box H rfl S rfl rfl ?_;clear H a S;intro b4 _ a hb4 hbw4 S H
 refine list_box H rfl S rfl rfl ?_;clear H a S;intro b5 _ a hb5 hbw5 S H
 refine ls 1 H <| sr 1 rfl <| sE ?_;clear H a;intro a H
 refine k1 _ _ ?_;clear k1 K1
 refine wp_seq_k fun K2 k2 => ?_
 replace H := H.keep [3, 4, 5] rfl
 refine seq_list fun K3 k3 => ?_
 refine ls 5 H <| sd ((does_loadBox agg_25 sz_25 rfl S (i := 2) rfl rfl)) <| sf fo_48_1 rfl <| sl S 1 one_23 rfl rfl rfl <| sf fo_48_2 rfl <| sl S 1 one_3 rfl rfl rfl <| sE ?_;clear H a;intro a H
 refine list_call H rfl rfl Try.func28 rfl rfl (law_Crowded pl ps PA pc xs XA xc pe BA bc T0 _ (hps.now S) hpn (hxs.now S) hxn (hpe.now S) hpen) ?_;clear H a
 rintro _ _ a ⟨cb, rfl, hcb, S2⟩ H
 replace S := S.call S2;clear S2
 refine ls 1 H <| sr 1 rfl <| sE ?_;clear H a;intro a H
 apply list_guard (i := 6) (g := 24) (t := 33) (b := false) 9 H S rfl rfl (by kernel_rfl) (by kernel_rfl) rfl rfl
 case h1 =>
  intro hg7
  have hq7 := hg7; try simp only [o1,o2,o3,o4,o5,o6,o7,o8,o9,oa] at hq7
  refine ls 7 H <| sy hg7 <| sd ((does_loadBox agg_25 sz_25 rfl S (i := 2) rfl rfl)) <| sy hg7 <| sf fo_48_0 rfl <| sy hg7 <| sl S 1 one_3 rfl rfl rfl <| sy hg7 <| sf fo_48_1 rfl <| sy hg7 <| sl S 1 one_23 rfl rfl rfl <| sy hg7 <| sf fo_48_2 rfl <| sy hg7 <| sl S 1 one_3 rfl rfl rfl <| sE ?_;intro a H
  refine list_yes' H rfl rfl (by assumption) ?_
  refine list_call H rfl rfl Try.func29 rfl rfl (ref_CheckLeave pl ps PA pc xs XA xc out pe BA bc T0 _ (hps.now S) hpn (hxs.now S) hxn (hpe.now S) hpen) ?_
  rintro _ _ a ⟨rfl, S2⟩ H
  replace S := S.call S2;clear S2
  refine ls 1 H <| sy hg7 <| sr 1 rfl <| sE ?_;intro a H
  exact wpList_nil ⟨H.strip 9 rfl rfl, (S.sel [0, 1, 2] rfl rfl)⟩
 clear H a S;intro a _ H S
 refine ls 7 H <| so rfl rfl rfl <| sr 1 rfl <| sg 4 17 35 39 false rfl rfl (fun hg18 => by
     have hq18 := hg18;try simp only [o1,o2,o3,o4,o5,o6,o7,o8,o9,oa] at hq18
     exact sy hg18 <| sf fo_51_0 rfl <| sy hg18 <| sl S 0 one_49 rfl rfl rfl <| sy hg18 <| sL sl_49 rfl <| sy hg18 <| sr 1 rfl <| sz 4 rfl rfl rfl) <| so rfl rfl rfl <| sE ?_;clear H a;intro a H
 refine k3 _ _ ?_;clear k3 K3
 refine cond_ H rfl (fun hc1 => ?_) (fun hc1 => ?_)
 ·skip
  try simp only [o1,o2,o3,o4,o5,o6,o7,o8,o9,oa] at hc1
  replace H := H.keep [] rfl
  refine seq_list fun K4 k4 => ?_
  refine list_call H rfl rfl Try.func15 rfl rfl (law_works _) ?_;clear H a
  rintro _ _ a ⟨rfl, S2⟩ H
  replace S := S.call S2;clear S2
  refine ls 1 H <| sr 1 rfl <| sE ?_;clear H a;intro a H
  refine k4 _ _ ?_;clear k4 K4
  refine wp_ret ?_
  refine ret1 (fn := Try.f6) rfl H rfl ?_
  exact ⟨rfl, (S.sel [] rfl rfl)⟩
 try simp only [o1,o2,o3,o4,o5,o6,o7,o8,o9,oa] at hc1
 have hlv : leaveE pl ps xs out pe T0 = 0 := by omega
 have hsm := hcb hc1.1.1
 obtain ⟨hst, hou, hcr, hti⟩ := leaveE_ok hlv
 have hV0 := st_valid hst
 obtain ⟨P, rfl⟩ : ∃ P : Nat, pl = P := ⟨pl.toNat, by have := hV0.size; omega⟩
 have hV := hV0
 obtain ⟨hpp, hpl'⟩ := crowd_ok hcr
 have hpl : pe.length = P := by omega
 obtain ⟨T, rfl⟩ : ∃ T : Nat, T0 = T := ⟨T0.toNat, by omega⟩
 have hT : T ≤ 60 := by omega
 have hP10 := hV.size
 have hpk : PeOk pe := hpp
 have hcu := cut_bar (T := T) hV hou.1 hpk
 have hcl : (cutL P T pe xs (hds out xs ps)).length = P := cutL_len
 refine wp_skip ?_
 refine k2 _ _ ?_
 replace H := H.keep [3, 4, 5] rfl
 refine seq_list fun K5 k5 => ?_
 refine ls 7 H <| sd ((does_loadBox agg_25 sz_25 rfl S (i := 2) rfl rfl)) <| sf fo_48_0 rfl <| sl S 1 one_3 rfl rfl rfl <| sf fo_48_1 rfl <| sl S 1 one_23 rfl rfl rfl <| sf fo_48_2 rfl <| sl S 1 one_3 rfl rfl rfl <| sE ?_;clear H a;intro a H
 refine list_call H rfl rfl Try.func30 rfl rfl (left_C P ps PA pc xs XA xc out pe BA bc T _ (hps.now S) hpn (hxs.now S) hxn (hpe.now S) hpen (hlv)) ?_;clear H a
 rintro _ _ a ⟨rfl, S2⟩ H
 replace S := S.call S2;clear S2
 refine ls 5 H <| sr 5 rfl <| sE ?_;clear H a;intro a H
 refine k5 _ _ ?_;clear k5 K5
 replace H := H.keep [3, 4, 5, 7, 8] rfl
 refine seq_list fun K6 k6 => ?_
 refine ls 7 H <| sd ((does_loadBox agg_25 sz_25 rfl S (i := 2) rfl rfl)) <| sf fo_48_0 rfl <| sl S 1 one_3 rfl rfl rfl <| sf fo_48_1 rfl <| sl S 1 one_23 rfl rfl rfl <| sf fo_48_2 rfl <| sl S 1 one_3 rfl rfl rfl <| sE ?_;clear H a;intro a H
 refine list_call H rfl rfl Try.func31 rfl rfl (plan_C P ps PA pc xs XA xc out pe BA bc T _ (hps.now S) hpn (hxs.now S) hxn (hpe.now S) hpen hlv) ?_;clear H a
 rintro _ _ a ⟨lp, A7, c7, ⟨rfl, hp1, hp2, hp3, hp4⟩, S2⟩ H
 replace S := S.call S2;clear S2
 refine ls 5 H <| sr 5 rfl <| sE ?_;clear H a;intro a H
 refine k6 _ _ ?_;clear k6 K6
 replace H := H.keep [3, 4, 5, 7, 8, 9, 10] rfl
 refine seq_list fun K7 k7 => ?_
 refine ls 7 H <| sd ((does_loadBox agg_25 sz_25 rfl S (i := 3) rfl rfl)) <| sf fo_48_0 rfl <| sl S 2 one_3 rfl rfl rfl <| sf fo_48_1 rfl <| sl S 2 one_23 rfl rfl rfl <| sf fo_48_2 rfl <| sl S 2 one_3 rfl rfl rfl <| sE ?_;clear H a;intro a H
 refine list_call H rfl rfl Try.func32 rfl rfl (cut_C P ps PA pc xs XA xc out pe BA bc T _ (hps.now S) hpn (hxs.now S) hxn (hpe.now S) hpen hlv) ?_;clear H a
 rintro _ _ a ⟨A8, c8, rfl, S2⟩ H
 replace S := S.call S2;clear S2
 refine ls 5 H <| sr 5 rfl <| sE ?_;clear H a;intro a H
 refine k7 _ _ ?_;clear k7 K7
 refine wp_seq_k fun K8 k8 => ?_
 replace H := H.keep [3, 4, 5, 7, 8, 9, 10, 11, 12] rfl
 refine sS H fun K9 k9=>sr 1 rfl <| sd (does_ne_f rfl rfl rfl) <| sr 1 rfl <| sy rfl <| sr 1 rfl <| sy rfl <| sd (does_ne_f rfl rfl rfl) <| so rfl rfl rfl <| sr 1 rfl <| sy rfl <| sr 1 rfl <| sy rfl <| sd (does_ne_f rfl rfl rfl) <| so rfl rfl rfl <| sr 1 rfl <| sy rfl <| sr 1 rfl <| sy rfl <| sL sl_49 rfl <| sy rfl <| sd ((does_gtr rfl rfl).to (v' := .bool false) (congrArg Value.bool (decide_eq_false (by omega)))) <| so rfl rfl rfl <| sE ?_;clear H a;intro a H
 refine k9 _ ?_;clear k9 K9
 refine cond_ H rfl (fun hc2 => ?_) (fun hc2 => ?_)
 ·skip
  skip
  cases hc2
 skip
 refine wp_skip ?_
 refine k8 _ _ ?_
 replace H := H.keep [3, 4, 5, 7, 9, 11] rfl
 refine seq_list fun K10 k10 => ?_
 refine ls 8 H <| sd ((does_loadBox agg_25 sz_25 rfl S (i := 4) rfl rfl)) <| sf fo_48_0 rfl <| sl S 3 one_3 rfl rfl rfl <| sf fo_48_1 rfl <| sl S 3 one_23 rfl rfl rfl <| sf fo_48_2 rfl <| sl S 3 one_3 rfl rfl rfl <| sr 1 rfl <| sE ?_;clear H a;intro a H
 refine list_call H rfl rfl Try.func33 rfl rfl (ref_Outside P ps PA pc xs XA xc out pe BA bc T lp A7 c7 _ (hps.now S) hpn (hxs.now S) hxn (hpe.now S) hpen (ownM.inS S (i := 1) rfl) (by omega)) ?_;clear H a
 rintro _ _ a ⟨rfl, S2⟩ H
 replace S := S.call S2;clear S2
 rw [outV_ok hlv (by omega) hp1, hp2] at H
 refine ls 5 H <| sr 5 rfl <| sE ?_;clear H a;intro a H
 refine k10 _ _ ?_;clear k10 K10
 replace H := H.keep [3, 4, 5, 7, 11, 13, 14] rfl
 refine seq_list fun K11 k11 => ?_
 refine ls 8 H <| sd ((does_loadBox agg_25 sz_25 rfl S (i := 4) rfl rfl)) <| sf fo_48_0 rfl <| sl S 3 one_3 rfl rfl rfl <| sf fo_48_1 rfl <| sl S 3 one_23 rfl rfl rfl <| sf fo_48_2 rfl <| sl S 3 one_3 rfl rfl rfl <| sr 1 rfl <| sE ?_;clear H a;intro a H
 refine list_call H rfl rfl Try.func34 rfl rfl (ref_Bound P ps PA pc xs XA xc out pe BA bc T (cutL P T pe xs (hds out xs ps)) A8 c8 _ (hps.now S) hpn (hxs.now S) hxn (hpe.now S) hpen (ownM.inS S (i := 0) rfl) (by omega)) ?_;clear H a
 rintro _ _ a ⟨rfl, S2⟩ H
 replace S := S.call S2;clear S2
 rw [bound_ok hlv hcu.1, hcu.2] at H
 refine ls 5 H <| sr 5 rfl <| sE ?_;clear H a;intro a H
 refine k11 _ _ ?_;clear k11 K11
 refine wp_seq_k fun K12 k12 => ?_
 replace H := H.keep [3, 4, 5, 7, 11, 13, 14, 15, 16] rfl
 refine sS H fun K13 k13=>sr 1 rfl <| sd (does_ne_f rfl rfl rfl) <| sr 1 rfl <| sy rfl <| sr 1 rfl <| sy rfl <| sd (does_ne_f rfl rfl rfl) <| so rfl rfl rfl <| sr 1 rfl <| sy rfl <| sr 1 rfl <| sy rfl <| sr 1 rfl <| sy rfl <| sd (does_ne_f rfl rfl rfl) <| so rfl rfl rfl <| sr 1 rfl <| sy rfl <| sr 1 rfl <| sy rfl <| sr 1 rfl <| sy rfl <| sd (does_ne_f rfl rfl rfl) <| so rfl rfl rfl <| sE ?_;clear H a;intro a H
 refine k13 _ ?_;clear k13 K13
 refine cond_ H rfl (fun hc3 => ?_) (fun hc3 => ?_)
 ·skip
  skip
  cases hc3
 skip
 refine wp_skip ?_
 refine k12 _ _ ?_
 replace H := H.keep [3, 4, 5, 7, 11] rfl
 refine seq_list fun K14 k14 => ?_
 refine ls 9 H <| sd ((does_loadBox agg_25 sz_25 rfl S (i := 4) rfl rfl)) <| sf fo_48_0 rfl <| sl S 3 one_3 rfl rfl rfl <| sf fo_48_1 rfl <| sl S 3 one_23 rfl rfl rfl <| sf fo_48_2 rfl <| sl S 3 one_3 rfl rfl rfl <| sf fo_51_0 rfl <| sl S 2 one_49 rfl rfl rfl <| sE ?_;clear H a;intro a H
 refine list_call H rfl rfl Try.func33 rfl rfl (ref_Outside P ps PA pc xs XA xc out pe BA bc T l MA mc _ (hps.now S) hpn (hxs.now S) hxn (hpe.now S) hpen (hml.now S) hmn) ?_;clear H a
 rintro _ _ a ⟨rfl, S2⟩ H
 replace S := S.call S2;clear S2
 obtain ⟨n1, e1, hn1, hn2⟩ := out_ex (l := l) hlv (by omega)
 rw [hn1] at H
 refine ls 5 H <| sr 5 rfl <| sE ?_;clear H a;intro a H
 refine k14 _ _ ?_;clear k14 K14
 refine wp_seq_k fun K15 k15 => ?_
 replace H := H.keep [3, 4, 5, 7, 11, 13, 14] rfl
 refine sS H fun K16 k16=>sr 3 rfl <| sg 3 2 145 148 true rfl rfl (fun hg3 => by
     have hq3 := hg3;try simp only [o1,o2,o3,o4,o5,o6,o7,o8,o9,oa] at hq3
     exact sy hg3 <| sr 1 rfl <| sy hg3 <| sr 1 rfl <| sy hg3 <| sr 1 rfl <| sz 3 rfl rfl rfl) <| sa rfl rfl rfl <| sE ?_;clear H a;intro a H
 refine k16 _ ?_;clear k16 K16
 refine cond_ H rfl (fun hc4 => ?_) (fun hc4 => ?_)
 ·skip
  try simp only [o1,o2,o3,o4,o5,o6,o7,o8,o9,oa] at hc4
  exfalso
  have h9 := hn2 hc4.1
  have h8 := hc4.2
  omega
 try simp only [o1,o2,o3,o4,o5,o6,o7,o8,o9,oa] at hc4
 refine wp_skip ?_
 refine k15 _ _ ?_
 replace H := H.keep [3, 4, 5, 7, 11] rfl
 refine seq_list fun K17 k17 => ?_
 refine ls 9 H <| sd ((does_loadBox agg_25 sz_25 rfl S (i := 4) rfl rfl)) <| sf fo_48_0 rfl <| sl S 3 one_3 rfl rfl rfl <| sf fo_48_1 rfl <| sl S 3 one_23 rfl rfl rfl <| sf fo_48_2 rfl <| sl S 3 one_3 rfl rfl rfl <| sf fo_51_1 rfl <| sl S 2 one_23 rfl rfl rfl <| sE ?_;clear H a;intro a H
 refine list_call H rfl rfl Try.func34 rfl rfl (ref_Bound P ps PA pc xs XA xc out pe BA bc T bl DA dc _ (hps.now S) hpn (hxs.now S) hxn (hpe.now S) hpen (hbar.now S) hbn) ?_;clear H a
 rintro _ _ a ⟨rfl, S2⟩ H
 replace S := S.call S2;clear S2
 obtain ⟨n3, e3, hn3, hn4⟩ := bound_ex (bl := bl) hlv
 rw [hn3] at H
 refine ls 5 H <| sr 5 rfl <| sE ?_;clear H a;intro a H
 refine k17 _ _ ?_;clear k17 K17
 refine wp_seq_k fun K18 k18 => ?_
 replace H := H.keep [5, 7, 11, 15, 16] rfl
 refine sS H fun K19 k19=>sr 2 rfl <| sE ?_;clear H a;intro a H
 refine k19 _ ?_;clear k19 K19
 refine condN H rfl (fun hc5 => ?_) (fun hc5 => ?_)
 ·skip
  refine seq_list fun K20 k20 => ?_
  refine list_call H rfl rfl Try.func15 rfl rfl (law_works _) ?_;clear H a
  rintro _ _ a ⟨rfl, S2⟩ H
  replace S := S.call S2;clear S2
  refine ls 1 H <| sr 1 rfl <| sE ?_;clear H a;intro a H
  refine k20 _ _ ?_;clear k20 K20
  refine wp_ret ?_
  refine ret1 (fn := Try.f6) rfl H rfl ?_
  exact ⟨rfl, (S.sel [] rfl rfl)⟩
 obtain ⟨hbo, hn5⟩ := hn4 (by omega)
 have hbb := bar_bound (T := T) hV hou.1 hpk hbo
 have hbl9 : (bl.length : Int) = P := (barOk_ok hbo).1
 refine wp_skip ?_
 refine k18 _ _ ?_
 refine wp_seq_k fun K21 k21 => ?_
 refine sS H fun K22 k22=>sr 3 rfl <| sE ?_;clear H a;intro a H
 refine k22 _ ?_;clear k22 K22
 refine condL H rfl (fun hc6 => ?_) (fun hc6 => ?_)
 ·skip
  exfalso
  omega
 refine wp_skip ?_
 refine k21 _ _ ?_
 refine wp_seq_k fun K23 k23 => ?_
 refine sS H fun K24 k24=>sr 1 rfl <| sE ?_;clear H a;intro a H
 refine k24 _ ?_;clear k24 K24
 refine wp_block ?_
 refine loop_st (X := Nat) (R0 := _) [5, 7, 11, 15] H rfl (fun k => [(17, .int .i64 (k : Int))]) (fun k => []) (fun g k => k ≤ P ∧ g + k = P) (P) 0 ?_ (S.sel [0, 1, 2, 3, 4] rfl rfl) (H.keep [17, 5, 7, 11, 15] rfl) ?_
 · exact ⟨by omega, by omega⟩
 clear H S a
 intro g1 x1 a w1 hp S H K25 k25
 obtain ⟨k, rfl⟩ : ∃ y, y = x1 := ⟨_, rfl⟩
 refine wp_seq_k fun K26 k26 => ?_
 refine sS H fun K27 k27=>sr 2 rfl <| sL sl_23 rfl <| sr 2 rfl <| sg 3 4 173 176 true rfl rfl (fun hg5 => by
     have hq5 := hg5;try simp only [o1,o2,o3,o4,o5,o6,o7,o8,o9,oa] at hq5
     exact sy hg5 <| sr 1 rfl <| sy hg5 <| sr 1 rfl <| sy hg5 <| sr 1 rfl <| sz 3 rfl rfl rfl) <| sa rfl rfl rfl <| sE ?_;clear H a;intro a H
 refine k27 _ ?_;clear k27 K27
 refine cond_ H rfl (fun hc7 => ?_) (fun hc7 => ?_)
 ·skip
  try simp only [o1,o2,o3,o4,o5,o6,o7,o8,o9,oa] at hc7
  refine wp_skip ?_
  refine k26 _ _ ?_
  refine wp_seq_k fun K28 k28 => ?_
  refine wp_block ?_
  replace H := H.keep [5, 7, 11, 15, 17] rfl
  replace S := S.drew
  refine sD H fun K29 k29=>sr 2 rfl <| si sl_23 sz_3 rfl rfl (ownM.adr S (i := 0) rfl (by omega)) (by omega) <| slm one_3 rfl (ownM.rd S (i := 0) rfl (by omega) (by omega)) <| sf fo_51_1 rfl <| sl S 2 one_23 rfl rfl rfl <| sr 1 rfl <| si sl_23 sz_3 rfl rfl (hbar.adr (by omega)) (by omega) <| slm one_3 rfl (hbar.rd S (by omega) (by omega)) <| sr 1 rfl <| sE ?_;clear H a;intro a H
  refine k29 _ ?_;clear k29 K29
  refine condL H rfl (fun hc8 => ?_) (fun hc8 => ?_)
  ·skip
   exfalso
   have h9 := cut_least (T := T) hV hou.1 hpk hbo (by rw [← hn5]; exact hc7.2) (p := k) (by omega)
   omega
  refine wp_skip ?_
  refine k28 _ _ ?_
  replace H := H.keep [5, 7, 11, 15, 17] rfl
  refine sO H <| sr 1 rfl <| sd (does_add rfl rfl (by unfold i64ok; omega)) <| sr 1 rfl <| sE ?_;clear H a;intro a H
  exact k25 (g1 - 1) (k + 1) a _ (by omega) (⟨by omega, by omega⟩) (S.sel [0, 1, 2, 3, 4] rfl rfl) (H.keep [17, 5, 7, 11, 15] rfl)
 try simp only [o1,o2,o3,o4,o5,o6,o7,o8,o9,oa] at hc7
 refine wp_exit ?_
 refine k23 _ _ ?_
 refine seq_list fun K31 k31 => ?_
 refine list_call H rfl rfl Try.func15 rfl rfl (law_works _) ?_;clear H a
 rintro _ _ a ⟨rfl, S2⟩ H
 replace S := S.call S2;clear S2
 refine ls 1 H <| sr 1 rfl <| sE ?_;clear H a;intro a H
 refine k31 _ _ ?_;clear k31 K31
 refine wp_ret ?_
 refine ret1 (fn := Try.f6) rfl H rfl ?_
 exact ⟨rfl, (S.sel [] rfl rfl)⟩

end Go.Proofs.Ytlmddkekeoebcaa
