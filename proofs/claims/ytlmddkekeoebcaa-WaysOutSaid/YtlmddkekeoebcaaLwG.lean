/- LwG. Printed by gen.py. -/
import Derived.Test.YtlmddkekeoebcaaLwE
import Derived.Test.YtlmddkekeoebcaaMcu
namespace Go.Proofs.Ytlmddkekeoebcaa
open Go.RowKit
set_option linter.unusedVariables false
set_option linter.unusedSimpArgs false
set_option maxRecDepth 100000
set_option maxHeartbeats 4000000


theorem left_formN {P T : Nat} {ps : List Psg} {xs : List Int} {out : Int} {pe : List Int} {w : World} {u : Value} {w' : World} (hl : leaveE P ps xs out pe T = 0) (h : (fun u w' => (leaveE (P : Int) ps xs out pe (T : Int) ≠ 0 ∧ u = .tuple #[.int .i64 0, .int .i64 (leaveE (P : Int) ps xs out pe (T : Int))] ∧ St w noF [] w') ∨ (leaveE (P : Int) ps xs out pe (T : Int) = 0 ∧ u = .tuple #[.int .i64 (mfv (P : Int).toNat (T : Int).toNat pe xs (hds out xs ps)), .int .i64 0] ∧ St w noF [] w')) u w') : u = .tuple #[.int .i64 (mfv P T pe xs (hds out xs ps)), .int .i64 0] ∧ St w noF [] w' := by
  rcases h with ⟨h0, _⟩ | ⟨_, rfl, S⟩
  · exact absurd hl h0
  · exact ⟨by simp only [Int.toNat_natCast], S⟩
theorem leave_T {pl : Int} {ps : List Psg} {xs : List Int} {out : Int} {pe : List Int} {T T' : Int} (h : leaveE pl ps xs out pe T = 0) (hT : 0 ≤ T' ∧ T' ≤ 60) : leaveE pl ps xs out pe T' = 0 := by
  obtain ⟨h1, h2, h3, h4⟩ := leaveE_ok h
  unfold leaveE
  rw [if_neg (by omega), if_pos (by simp only [Bool.and_eq_true, decide_eq_true_eq]; exact ⟨⟨h2, h3⟩, hT⟩)]
theorem leave_out {pl : Int} {ps : List Psg} {xs : List Int} {out out' : Int} {pe : List Int} {T : Int} (h : leaveE pl ps xs out pe T = 0) (ho : 0 ≤ out' ∧ out' ≤ 4095) : leaveE pl ps xs out' pe T = 0 := by
  obtain ⟨h1, h2, h3, h4⟩ := leaveE_ok h
  unfold leaveE
  rw [if_neg (by omega), if_pos (by simp only [Bool.and_eq_true, decide_eq_true_eq]; exact ⟨⟨ho, h3⟩, h4⟩)]
theorem own_len {w0 : World} {F0 : Nat → Prop} {R : List Mem} {w : World} {e sz n m c i : Nat} {A : Option Addr} {cell : Nat → Nat → Value} (S : St w0 F0 R w) (hi : R[i]? = some (ownM e sz A n c cell)) (h : n = m) : St w0 F0 (R.set i (ownM e sz A m c cell)) w := by
  subst h
  exact S.recell hi (fun _ _ _ _ => rfl)
def addL (pe mo : List Int) : List Int := (List.range pe.length).map fun q => pe.getD q 0 + mo.getD q 0
theorem addL_len {pe mo : List Int} : (addL pe mo).length = pe.length := by unfold addL; rw [List.length_map, List.length_range]
theorem addL_at {pe mo : List Int} {q : Nat} (h : q < pe.length) : (addL pe mo).getD q 0 = pe.getD q 0 + mo.getD q 0 := by
  unfold addL
  rw [List.getD_eq_getElem?_getD, List.getElem?_map, List.getElem?_range h]; rfl
theorem ct_sub {n m : Nat} (h : n = m + 1) (hn : n ≤ 60) : (n : Int) - 1 = m ∧ i64ok ((n : Int) - 1) := by
  unfold i64ok
  omega
theorem al_put {pe mo : List Int} {i : Nat} : ∀ k j, j < 1 → cput (lcl fun q => if q < i then pe.getD q 0 + mo.getD q 0 else pe.getD q 0) i 0 (.int .i64 (pe.getD i 0 + mo.getD i 0)) k j = lcl (fun q => if q < i + 1 then pe.getD q 0 + mo.getD q 0 else pe.getD q 0) k j := by
  intro k j hj
  have : j = 0 := by omega
  subst this
  unfold cput lcl
  dsimp only
  by_cases e : k = i
  · subst e; rw [if_pos ⟨rfl, rfl⟩, if_pos (by omega)]
  · rw [if_neg (fun h => e h.1)]
    by_cases h : k < i
    · rw [if_pos h, if_pos (by omega)]
    · rw [if_neg h, if_neg (by omega)]
theorem al_end {pe mo : List Int} {i : Nat} (hi : pe.length ≤ i) : ∀ k j, k < pe.length → j < 1 → lcl (fun q => if q < i then pe.getD q 0 + mo.getD q 0 else pe.getD q 0) k j = icl (addL pe mo) k j := by
  intro k j hk hj
  unfold lcl icl
  dsimp only
  rw [if_pos (by omega), addL_at hk]
theorem clr_ex {P : Nat} {ps : List Psg} {xs : List Int} {out : Int} {pe : List Int} : ∃ (ct : Nat) (ce : Int), clrN (fstB (fun t => decide (mfv P t pe xs (hds out xs ps) = sumI pe pe.length)) 61) = ((ct : Int), ce) ∧ (ce = 0 ∧ ct ≤ 60 ∧ mfv P ct pe xs (hds out xs ps) = sumI pe pe.length ∧ (∀ q, q < ct → mfv P q pe xs (hds out xs ps) ≠ sumI pe pe.length) ∨ ce = 3) := by
  have h := fst_yes (f := fun t => decide (mfv P t pe xs (hds out xs ps) = sumI pe pe.length)) (n := 61)
  generalize fstB (fun t => decide (mfv P t pe xs (hds out xs ps) = sumI pe pe.length)) 61 = n at h
  unfold clrN
  by_cases hn : n < 61
  · rw [if_pos hn]
    obtain ⟨h1, h2⟩ := h hn
    exact ⟨n, 0, rfl, .inl ⟨rfl, by omega, of_decide_eq_true h1, fun q hq => of_decide_eq_false (h2 q hq)⟩⟩
  · rw [if_neg hn]
    exact ⟨0, 3, rfl, .inr rfl⟩
theorem clear_formN {P : Nat} {ps : List Psg} {xs : List Int} {out : Int} {pe : List Int} {w : World} {u : Value} {w' : World} {ct : Nat} {ce : Int} (hl : leaveE P ps xs out pe 0 = 0) (hc : clrN (fstB (fun t => decide (mfv P t pe xs (hds out xs ps) = sumI pe pe.length)) 61) = ((ct : Int), ce)) (h : (fun u w' => (leaveE (P : Int) ps xs out pe 0 ≠ 0 ∧ u = .tuple #[.int .i64 0, .int .i64 (leaveE (P : Int) ps xs out pe 0)] ∧ St w noF [] w') ∨ (leaveE (P : Int) ps xs out pe 0 = 0 ∧ u = clearV (fstB (fun t => decide (mfv (P : Int).toNat t pe xs (hds out xs ps) = sumI pe pe.length)) 61) ∧ St w noF [] w')) u w') : u = .tuple #[.int .i64 (ct : Int), .int .i64 ce] ∧ St w noF [] w' := by
  rcases h with ⟨h0, _⟩ | ⟨_, hu, S⟩
  · exact absurd hl h0
  · rw [Int.toNat_natCast] at hu
    rw [hu, clearV_N, hc]
    exact ⟨rfl, S⟩
theorem left_C (P : Nat) (ps : List Psg) (PA : Option Addr) (pc : Nat) (xs : List Int) (XA : Option Addr) (xc : Nat) (out : Int) (pe : List Int) (BA : Option Addr) (bc : Nat)  (T : Nat) (w : World) (hps : InS w noF 7 PA ps.length (pcell ps)) (hpn : ps.length ≤ 9223372036854775807) (hxs : InS w noF 1 XA xs.length (icl xs)) (hxn : xs.length ≤ 9223372036854775807) (hpe : InS w noF 1 BA pe.length (icl pe)) (hpen : pe.length ≤ 9223372036854775807)  (hl : leaveE P ps xs out pe T = 0) : Calls Try.prog 30 [.agg [.int .i64 (P : Int), .slice PA ps.length pc, .slice XA xs.length xc].toArray, .int .i64 out, .slice BA pe.length bc, .int .i64 (T : Int)].toArray w (Ret fun u w' => u = .tuple #[.int .i64 (mfv P T pe xs (hds out xs ps)), .int .i64 0] ∧ St w noF [] w') := by
  have h := ways_Left P ps PA pc xs XA xc out pe BA bc T w hps hpn hxs hxn hpe hpen
  exact ret_imp h fun u w' h => left_formN hl h
theorem clear_C (P : Nat) (ps : List Psg) (PA : Option Addr) (pc : Nat) (xs : List Int) (XA : Option Addr) (xc : Nat) (out : Int) (pe : List Int) (BA : Option Addr) (bc : Nat)  {ct : Nat} {ce : Int} (w : World) (hps : InS w noF 7 PA ps.length (pcell ps)) (hpn : ps.length ≤ 9223372036854775807) (hxs : InS w noF 1 XA xs.length (icl xs)) (hxn : xs.length ≤ 9223372036854775807) (hpe : InS w noF 1 BA pe.length (icl pe)) (hpen : pe.length ≤ 9223372036854775807)  (hl : leaveE P ps xs out pe 0 = 0) (hc : clrN (fstB (fun t => decide (mfv P t pe xs (hds out xs ps) = sumI pe pe.length)) 61) = ((ct : Int), ce)) : Calls Try.prog 38 [.agg [.int .i64 (P : Int), .slice PA ps.length pc, .slice XA xs.length xc].toArray, .int .i64 out, .slice BA pe.length bc].toArray w (Ret fun u w' => u = .tuple #[.int .i64 (ct : Int), .int .i64 ce] ∧ St w noF [] w') := by
  have h := ways_Clear P ps PA pc xs XA xc out pe BA bc w hps hpn hxs hxn hpe hpen
  exact ret_imp h fun u w' h => clear_formN hl hc h


theorem law_WaysMore (pl : Int) (ps : List Psg) (PA : Option Addr) (pc : Nat) (xs : List Int) (XA : Option Addr) (xc : Nat) (out : Int) (pe : List Int) (BA : Option Addr) (bc : Nat) (T0 : Int) (mo : List Int) (DA : Option Addr) (dc : Nat) (w : World) (hps : InS w noF 7 PA ps.length (pcell ps)) (hpn8 : 56 * ps.length ≤ 140737488355328) (hxs : InS w noF 1 XA xs.length (icl xs)) (hxn8 : 8 * xs.length ≤ 140737488355328) (hpe : InS w noF 1 BA pe.length (icl pe)) (hpe8 : 8 * pe.length ≤ 140737488355328) (hmo : InS w noF 1 DA mo.length (icl mo)) (hm8 : 8 * mo.length ≤ 140737488355328) :
    Calls Try.prog 9 [.agg [.int .i64 pl, .slice PA ps.length pc, .slice XA xs.length xc].toArray, .agg [.int .i64 out, .slice BA pe.length bc, .int .i64 T0].toArray, .slice DA mo.length dc].toArray w (Ret (fun u w' => u = .bool true ∧ St w noF [] w')) := by
 have hpn : ps.length ≤ 9223372036854775807 := by omega
 have hxn : xs.length ≤ 9223372036854775807 := by omega
 have hpen : pe.length ≤ 9223372036854775807 := by omega
 refine enter Try.func9 rfl Try.ntmps9 rfl (fun a H => ?_)
 have S := St.start w
 refine seq_list fun K1 k1 => ?_
 refine list_box H rfl S rfl rfl ?_;clear H a S;intro b3 _ a hb3 hbw3 S H
 refine list_box H rfl S rfl rfl ?_;clear H a S;intro b4 _ a hb4 hbw4 S H
 refine ls 1 H <| sr 1 rfl <| sE ?_;clear H a;intro a H
 refine k1 _ _ ?_;clear k1 K1
 refine wp_seq_k fun K2 k2 => ?_
 replace H := H.keep [2, 3, 4] rfl
 refine seq_list fun K3 k3 => ?_
 refine ls 5 H <| sd ((does_loadBox agg_25 sz_25 rfl S (i := 1) rfl rfl)) <| sf fo_48_1 rfl <| sl S 0 one_23 rfl rfl rfl <| sf fo_48_2 rfl <| sl S 0 one_3 rfl rfl rfl <| sE ?_;clear H a;intro a H
 refine list_call H rfl rfl Try.func28 rfl rfl (law_Crowded pl ps PA pc xs XA xc pe BA bc T0 _ (hps.now S) hpn (hxs.now S) hxn (hpe.now S) hpen) ?_;clear H a
 rintro _ _ a ⟨cb, rfl, hcb, S2⟩ H
 replace S := S.call S2;clear S2
 refine ls 1 H <| sr 1 rfl <| sE ?_;clear H a;intro a H
 apply list_guard (i := 6) (g := 28) (t := 37) (b := false) 9 H S rfl rfl (by kernel_rfl) (by kernel_rfl) rfl rfl
 case h1 =>
  intro hg7
  refine ls 7 H <| sy hg7 <| sd ((does_loadBox agg_25 sz_25 rfl S (i := 1) rfl rfl)) <| sy hg7 <| sf fo_48_0 rfl <| sy hg7 <| sl S 0 one_3 rfl rfl rfl <| sy hg7 <| sf fo_48_1 rfl <| sy hg7 <| sl S 0 one_23 rfl rfl rfl <| sy hg7 <| sf fo_48_2 rfl <| sy hg7 <| sl S 0 one_3 rfl rfl rfl <| sE ?_;intro a H
  refine list_yes' H rfl rfl (by assumption) ?_
  refine list_call H rfl rfl Try.func29 rfl rfl (ref_CheckLeave pl ps PA pc xs XA xc out pe BA bc T0 _ (hps.now S) hpn (hxs.now S) hxn (hpe.now S) hpen) ?_
  rintro _ _ a ⟨rfl, S2⟩ H
  replace S := S.call S2;clear S2
  refine ls 1 H <| sy hg7 <| sr 1 rfl <| sE ?_;intro a H
  exact wpList_nil ⟨H.strip 9 rfl rfl, (S.sel [0, 1] rfl rfl)⟩
 clear H a S;intro a _ H S
 refine ls 9 H <| so rfl rfl rfl <| sr 1 rfl <| sg 6 17 39 45 false rfl rfl (fun hg18 => sy hg18 <| sr 1 rfl <| sy hg18 <| sL sl_23 rfl <| sy hg18 <| sf fo_48_1 rfl <| sy hg18 <| sl S 0 one_23 rfl rfl rfl <| sy hg18 <| sL sl_23 rfl <| sy hg18 <| sr 1 rfl <| sz 6 rfl rfl rfl) <| so rfl rfl rfl <| sE ?_;clear H a;intro a H
 refine k3 _ _ ?_;clear k3 K3
 refine cond_ H rfl (fun hc1 => ?_) (fun hc1 => ?_)
 ·skip
  try simp only [o1,o2,o3,o4,o5,o6,o7,o8,o9,oa] at hc1
  replace H := H.keep [] rfl
  refine seq_list fun K4 k4 => ?_
  refine list_call H rfl rfl Try.func15 rfl rfl (law_works _) ?_;clear H a
  rintro _ _ a ⟨rfl, S2⟩ H
  replace S := S.call S2;clear S2
  refine ls 1 H <| sr 1 rfl <| sE ?_;clear H a;intro a H
  refine k4 _ _ ?_;clear k4 K4
  refine wp_ret ?_
  refine ret1 (fn := Try.f9) rfl H rfl ?_
  exact ⟨rfl, (S.sel [] rfl rfl)⟩
 try simp only [o1,o2,o3,o4,o5,o6,o7,o8,o9,oa] at hc1
 have hlv : leaveE pl ps xs out pe T0 = 0 := by omega
 have hmn : mo.length = pe.length := by omega
 have hsm := hcb hc1.1.1
 obtain ⟨hst, hou, hcr, hti⟩ := leaveE_ok hlv
 have hV0 := st_valid hst
 obtain ⟨P, rfl⟩ : ∃ P : Nat, pl = P := ⟨pl.toNat, by have := hV0.size; omega⟩
 have hV := hV0
 obtain ⟨hpp, hpl'⟩ := crowd_ok hcr
 have hpl : pe.length = P := by omega
 obtain ⟨T, rfl⟩ : ∃ T : Nat, T0 = T := ⟨T0.toNat, by omega⟩
 have hT : T ≤ 60 := by omega
 have hP10 := hV.size
 have hpk : PeOk pe := hpp
 have hma := mfv_all (T := T) hV hou.1 hpk
 have hmn0 := mfv_nn (T := T) hV hou.1 hpk
 refine wp_skip ?_
 refine k2 _ _ ?_
 refine seq_list fun K5 k5 => ?_
 refine list_build0 H rfl S sl_23 sz_3 (icl pe) ?_;clear H a S;intro A1 _ a S H
 refine ls 2 H <| sf fo_48_1 rfl <| sl S 1 one_23 rfl rfl rfl <| sE ?_;clear H a;intro a H
 refine list_append H rfl S sl_23 sz_3 ze_3 by_3 rfl rfl (i := 0) rfl rfl rfl ((hpe.now S)) (fun _ _ _ _ => rfl) (by omega) (by omega) ?_;clear H a S;intro A2 c2 _ a S H
 rw [Nat.zero_add] at H
 replace S := S.recell (i := 0) (n := pe.length) (cell' := lcl (fun q => if q < 0 then pe.getD q 0 + mo.getD q 0 else pe.getD q 0)) (by simp only [Nat.zero_add]; rfl) (fun k j hk hj => by unfold capp; rw [if_neg (by omega)]; rfl)
 obtain ⟨Aal, rfl⟩ : ∃ y, y = A2 := ⟨_, rfl⟩
 obtain ⟨cal, rfl⟩ : ∃ y, y = c2 := ⟨_, rfl⟩
 refine ls 2 H <| sr 2 rfl <| sE ?_;clear H a;intro a H
 refine k5 _ _ ?_;clear k5 K5
 refine wp_seq_k fun K6 k6 => ?_
 refine sS H fun K7 k7=>sr 1 rfl <| sE ?_;clear H a;intro a H
 refine k7 _ ?_;clear k7 K7
 refine wp_block ?_
 rw [show (0 : Int) = sumI pe 0 from rfl] at H
 refine loop_st (X := Nat) (R0 := _) [2, 3, 4, 7] H rfl (fun i => [(8, .int .i64 (sumI pe i)), (9, .int .i64 (i : Int))]) (fun i => [ownM 3 1 Aal pe.length cal (lcl (fun q => if q < i then pe.getD q 0 + mo.getD q 0 else pe.getD q 0))]) (fun g i => i ≤ pe.length ∧ g + i = pe.length ∧ ∀ q, q < i → 0 ≤ mo.getD q 0 ∧ mo.getD q 0 ≤ 1000) (pe.length) 0 ?_ (S.sel [0, 1, 2] rfl rfl) (H.keep [8, 9, 2, 3, 4, 7] rfl) ?_
 · exact ⟨by omega, by omega, fun q hq => absurd hq (Nat.not_lt_zero q)⟩
 clear H S a
 intro g1 x1 a w1 hp S H K8 k8
 obtain ⟨i, rfl⟩ : ∃ y, y = x1 := ⟨_, rfl⟩
 refine wp_seq_k fun K9 k9 => ?_
 refine sS H fun K10 k10=>sr 2 rfl <| sL sl_23 rfl <| sr 1 rfl <| sE ?_;clear H a;intro a H
 refine k10 _ ?_;clear k10 K10
 refine condL H rfl (fun hc2 => ?_) (fun hc2 => ?_)
 ·skip
  refine wp_skip ?_
  refine k9 _ _ ?_
  refine wp_seq_k fun K11 k11 => ?_
  refine wp_block ?_
  refine wp_seq_k fun K12 k12 => ?_
  replace H := H.keep [2, 3, 4, 7, 8, 9] rfl
  refine sS H fun K13 k13=>sr 2 rfl <| si sl_23 sz_3 rfl rfl (hmo.adr (by omega)) (by omega) <| slm one_3 rfl (hmo.rd S (by omega) (by omega)) <| sr 2 rfl <| sg 5 5 63 68 false rfl rfl (fun hg6 => sy hg6 <| sr 1 rfl <| sy hg6 <| sr 1 rfl <| sy hg6 <| si sl_23 sz_3 rfl rfl (hmo.adr (by omega)) (by omega) <| sy hg6 <| slm one_3 rfl (hmo.rd S (by omega) (by omega)) <| sy hg6 <| sr 1 rfl <| sz 5 rfl rfl rfl) <| so rfl rfl rfl <| sE ?_;clear H a;intro a H
  refine k13 _ ?_;clear k13 K13
  refine cond_ H rfl (fun hc3 => ?_) (fun hc3 => ?_)
  ·skip
   try simp only [o1,o2,o3,o4,o5,o6,o7,o8,o9,oa] at hc3
   replace H := H.keep [] rfl
   refine seq_list fun K14 k14 => ?_
   refine list_call H rfl rfl Try.func15 rfl rfl (law_works _) ?_;clear H a
   rintro _ _ a ⟨rfl, S2⟩ H
   replace S := S.call S2;clear S2
   refine ls 1 H <| sr 1 rfl <| sE ?_;clear H a;intro a H
   refine k14 _ _ ?_;clear k14 K14
   refine wp_ret ?_
   refine ret1 (fn := Try.f9) rfl H rfl ?_
   exact ⟨rfl, (S.sel [] rfl rfl)⟩
  try simp only [o1,o2,o3,o4,o5,o6,o7,o8,o9,oa] at hc3
  refine wp_skip ?_
  refine k12 _ _ ?_
  have hpi := hpp i (by omega)
  have hmi : 0 ≤ mo.getD i 0 ∧ mo.getD i 0 ≤ 1000 := by omega
  replace H := H.keep [2, 3, 4, 7, 8, 9] rfl
  refine seq_tail 10 (by kernel_rfl) (by kernel_rfl) fun K15 k15 => ?_
  replace S := S.drew
  refine sF H <| sr 2 rfl <| si sl_23 sz_3 rfl rfl (ownM.adr S (i := 0) rfl (by omega)) (by omega) <| sd ((does_load one_3 rfl (ownM.rd S (i := 0) rfl (by omega) (by omega))).to (v' := .int .i64 (pe.getD i 0)) (by unfold lcl; dsimp only; rw [if_neg (by omega)])) <| sr 2 rfl <| si sl_23 sz_3 rfl rfl (hmo.adr (by omega)) (by omega) <| slm one_3 rfl (hmo.rd S (by omega) (by omega)) <| sd (does_add rfl rfl (by unfold i64ok; omega)) <| si sl_23 sz_3 rfl rfl (ownM.adr S (i := 0) rfl (by omega)) (by omega) <| sE ?_;clear H a;intro a H
  refine list_store_own H S (i := 0) rfl rfl rfl (by omega) (by omega) sz_3 rfl ?_
  clear H a S;intro _ a S H
  replace S := S.recell (i := 0) rfl (cell' := lcl (fun q => if q < i + 1 then pe.getD q 0 + mo.getD q 0 else pe.getD q 0)) (fun k j _ hj => al_put k j hj)
  refine k15 _ _ ?_;clear k15 K15
  have hsb := sumI_bd hpp i (by omega)
  have hpi2 := hpp i (by omega)
  replace H := H.keep [2, 3, 4, 7, 8, 9] rfl
  refine sO H <| sr 1 rfl <| sf fo_48_1 rfl <| sl S 1 one_23 rfl rfl rfl <| sr 1 rfl <| si sl_23 sz_3 rfl rfl (hpe.adr (by omega)) (by omega) <| slm one_3 rfl (hpe.rd S (by omega) (by omega)) <| sd (does_add rfl rfl (by unfold i64ok; omega)) <| sr 1 rfl <| sE ?_;clear H a;intro a H
  refine k11 _ _ ?_
  replace H := H.keep [2, 3, 4, 7, 8, 9] rfl
  refine sO H <| sr 1 rfl <| sd (does_add rfl rfl (by unfold i64ok; omega)) <| sr 1 rfl <| sE ?_;clear H a;intro a H
  exact k8 (g1 - 1) (i + 1) a _ (by omega) (⟨by omega, by omega, fun q hq => by
    by_cases e : q = i
    · subst e; exact hmi
    · exact hp.2.2 q (by omega)⟩) (S.sel [0, 1, 2] rfl rfl) (H.keep [8, 9, 2, 3, 4, 7] rfl)
 have hmb := hp.2.2
 replace S := S.recell (i := 0) rfl (cell' := icl (addL pe mo)) (fun k j hk hj => al_end (by omega) k j hk hj)
 replace S := own_len S (i := 0) rfl (addL_len (pe := pe) (mo := mo)).symm
 replace S := (S.sel [0, 1, 2] rfl rfl)
 rw [show Value.slice Aal pe.length cal = .slice Aal (addL pe mo).length cal by rw [addL_len]] at H
 refine wp_exit ?_
 refine k6 _ _ ?_
 replace H := H.keep [3, 4, 7, 8] rfl
 refine seq_list fun K18 k18 => ?_
 refine ls 7 H <| sd ((does_loadBox agg_25 sz_25 rfl S (i := 2) rfl rfl)) <| sf fo_48_0 rfl <| sl S 1 one_3 rfl rfl rfl <| sf fo_48_1 rfl <| sl S 1 one_23 rfl rfl rfl <| sf fo_48_2 rfl <| sl S 1 one_3 rfl rfl rfl <| sE ?_;clear H a;intro a H
 refine list_call H rfl rfl Try.func30 rfl rfl (left_C P ps PA pc xs XA xc out pe BA bc T _ (hps.now S) hpn (hxs.now S) hxn (hpe.now S) hpen (hlv)) ?_;clear H a
 rintro _ _ a ⟨rfl, S2⟩ H
 replace S := S.call S2;clear S2
 refine ls 5 H <| sr 5 rfl <| sE ?_;clear H a;intro a H
 refine k18 _ _ ?_;clear k18 K18
 refine wp_seq_k fun K19 k19 => ?_
 replace H := H.keep [3, 4, 7, 8, 10, 11] rfl
 refine sS H fun K20 k20=>sr 3 rfl <| sg 3 2 101 104 false rfl rfl (fun hg3 => sy hg3 <| sr 1 rfl <| sy hg3 <| sr 1 rfl <| sy hg3 <| sr 1 rfl <| sz 3 rfl rfl rfl) <| so rfl rfl rfl <| sr 1 rfl <| sg 2 7 106 108 false rfl rfl (fun hg8 => sy hg8 <| sr 1 rfl <| sy hg8 <| sr 1 rfl <| sz 2 rfl rfl rfl) <| so rfl rfl rfl <| sE ?_;clear H a;intro a H
 refine k20 _ ?_;clear k20 K20
 refine cond_ H rfl (fun hc4 => ?_) (fun hc4 => ?_)
 ·skip
  try simp only [o1,o2,o3,o4,o5,o6,o7,o8,o9,oa] at hc4
  exfalso
  rcases hc4 with (h | h) | h
  · first | exact h rfl | exact h trivial
  · rw [show i = P by omega] at h; omega
  · omega
 try simp only [o1,o2,o3,o4,o5,o6,o7,o8,o9,oa] at hc4
 refine wp_skip ?_
 refine k19 _ _ ?_
 have SR := (S.sel [0, 1, 2] rfl rfl)
 refine meet_sr (X := Unit) [3, 4, 7, 8, 10] H rfl (fun x => []) (fun x => []) (fun x => True) SR (fun K22 k22 => ?_) ?_
 ·skip
  replace H := H.keep [3, 4, 7, 8, 10] rfl
  refine sS H fun K23 k23=>sf fo_48_2 rfl <| sl S 1 one_3 rfl rfl rfl <| sr 1 rfl <| sE ?_;clear H a;intro a H
  refine k23 _ ?_;clear k23 K23
  refine condL H rfl (fun hc5 => ?_) (fun hc5 => ?_)
  ·skip
   obtain ⟨T1, hT1⟩ : ∃ n : Nat, T = n + 1 := ⟨T - 1, by omega⟩
   replace H := H.keep [3, 4, 7, 8, 10] rfl
   refine seq_list fun K24 k24 => ?_
   refine ls 8 H <| sd ((does_loadBox agg_25 sz_25 rfl S (i := 2) rfl rfl)) <| sf fo_48_0 rfl <| sl S 1 one_3 rfl rfl rfl <| sf fo_48_1 rfl <| sl S 1 one_23 rfl rfl rfl <| sf fo_48_2 rfl <| sl S 1 one_3 rfl rfl rfl <| sd ((does_sub rfl rfl (by unfold i64ok; omega)).to (v' := .int .i64 (T1 : Int)) (by congr 1; omega)) <| sE ?_;clear H a;intro a H
   refine list_call H rfl rfl Try.func30 rfl rfl (left_C P ps PA pc xs XA xc out pe BA bc T1 _ (hps.now S) hpn (hxs.now S) hxn (hpe.now S) hpen (leave_T hlv (by omega))) ?_;clear H a
   rintro _ _ a ⟨rfl, S2⟩ H
   replace S := S.call S2;clear S2
   refine ls 5 H <| sr 5 rfl <| sE ?_;clear H a;intro a H
   refine k24 _ _ ?_;clear k24 K24
   replace H := H.keep [3, 4, 7, 8, 10, 12, 13] rfl
   refine sS H fun K25 k25=>sr 3 rfl <| sg 3 2 127 130 false rfl rfl (fun hg3 => sy hg3 <| sr 1 rfl <| sy hg3 <| sr 1 rfl <| sy hg3 <| sr 1 rfl <| sz 3 rfl rfl rfl) <| so rfl rfl rfl <| sE ?_;clear H a;intro a H
   refine k25 _ ?_;clear k25 K25
   refine cond_ H rfl (fun hc6 => ?_) (fun hc6 => ?_)
   ·skip
    try simp only [o1,o2,o3,o4,o5,o6,o7,o8,o9,oa] at hc6
    exfalso
    have h9 := mfv_tick (T := T1) hV hou.1 hpk
    rw [← hT1] at h9
    rcases hc6 with h | h
    · first | exact h rfl | exact h trivial
    · omega
   try simp only [o1,o2,o3,o4,o5,o6,o7,o8,o9,oa] at hc6
   refine wp_skip ?_
   exact k22 () a _ (trivial) (S.sel [0, 1, 2] rfl rfl) (H.keep [3, 4, 7, 8, 10] rfl)
  refine wp_skip ?_
  exact k22 () a _ (trivial) (S.sel [0, 1, 2] rfl rfl) (H.keep [3, 4, 7, 8, 10] rfl)
 clear SR H S a
 intro xm a wm hp S H
 obtain ⟨x, rfl⟩ : ∃ y, y = xm := ⟨_, rfl⟩
 obtain ⟨ct, ce, hct, hcf⟩ := clr_ex (P := P) (ps := ps) (xs := xs) (out := out) (pe := pe)
 replace H := H.keep [3, 4, 7, 8, 10] rfl
 refine seq_list fun K26 k26 => ?_
 refine ls 5 H <| sd ((does_loadBox agg_25 sz_25 rfl S (i := 2) rfl rfl)) <| sf fo_48_0 rfl <| sl S 1 one_3 rfl rfl rfl <| sf fo_48_1 rfl <| sl S 1 one_23 rfl rfl rfl <| sE ?_;clear H a;intro a H
 refine list_call H rfl rfl Try.func38 rfl rfl (clear_C P ps PA pc xs XA xc out pe BA bc _ (hps.now S) hpn (hxs.now S) hxn (hpe.now S) hpen (leave_T hlv (by omega)) hct) ?_;clear H a
 rintro _ _ a ⟨rfl, S2⟩ H
 replace S := S.call S2;clear S2
 refine ls 5 H <| sr 5 rfl <| sE ?_;clear H a;intro a H
 refine k26 _ _ ?_;clear k26 K26
 refine wp_seq_k fun K27 k27 => ?_
 replace H := H.keep [3, 4, 7, 8, 10, 14, 15] rfl
 refine sS H fun K28 k28=>sr 3 rfl <| sg 2 2 143 145 true rfl rfl (fun hg3 => sy hg3 <| sr 1 rfl <| sy hg3 <| sr 1 rfl <| sz 2 rfl rfl rfl) <| sa rfl rfl rfl <| sr 1 rfl <| sg 10 6 147 157 false rfl rfl (fun hg7 => sy hg7 <| sr 1 rfl <| sy hg7 <| sr 1 rfl <| sy hg7 <| sr 1 rfl <| sg 6 9 150 156 true rfl rfl (fun hg10 => sy hg10 <| sr 1 rfl <| sy hg10 <| sr 1 rfl <| sy hg10 <| sr 1 rfl <| sg 2 12 153 155 false rfl rfl (fun hg13 => sy hg13 <| sr 1 rfl <| sy hg13 <| sr 1 rfl <| sz 2 rfl rfl rfl) <| sy hg10 <| so rfl rfl rfl <| sz 5 rfl rfl rfl) <| sy hg7 <| sa rfl rfl rfl <| sz 5 rfl rfl rfl) <| so rfl rfl rfl <| sE ?_;clear H a;intro a H
 refine k28 _ ?_;clear k28 K28
 refine cond_ H rfl (fun hc7 => ?_) (fun hc7 => ?_)
 ·skip
  try simp only [o1,o2,o3,o4,o5,o6,o7,o8,o9,oa] at hc7
  exfalso
  rcases hcf with ⟨h1, h2, _⟩ | h1 <;> omega
 try simp only [o1,o2,o3,o4,o5,o6,o7,o8,o9,oa] at hc7
 refine wp_skip ?_
 refine k27 _ _ ?_
 have SR := (S.sel [0, 1, 2] rfl rfl)
 refine meet_sr (X := Unit) [3, 4, 7, 8, 10] H rfl (fun x => []) (fun x => []) (fun x => True) SR (fun K30 k30 => ?_) ?_
 ·skip
  replace H := H.keep [3, 4, 7, 8, 10, 14, 15] rfl
  refine sS H fun K31 k31=>sr 3 rfl <| sg 2 2 161 163 true rfl rfl (fun hg3 => sy hg3 <| sr 1 rfl <| sy hg3 <| sr 1 rfl <| sz 2 rfl rfl rfl) <| sa rfl rfl rfl <| sE ?_;clear H a;intro a H
  refine k31 _ ?_;clear k31 K31
  refine cond_ H rfl (fun hc8 => ?_) (fun hc8 => ?_)
  ·skip
   try simp only [o1,o2,o3,o4,o5,o6,o7,o8,o9,oa] at hc8
   obtain ⟨h81, h82, h83, h84⟩ := hcf.resolve_right (by omega)
   replace H := H.keep [3, 4, 7, 8, 10, 14] rfl
   refine seq_list fun K32 k32 => ?_
   refine ls 6 H <| sd ((does_loadBox agg_25 sz_25 rfl S (i := 2) rfl rfl)) <| sf fo_48_0 rfl <| sl S 1 one_3 rfl rfl rfl <| sf fo_48_1 rfl <| sl S 1 one_23 rfl rfl rfl <| sr 1 rfl <| sE ?_;clear H a;intro a H
   refine list_call H rfl rfl Try.func30 rfl rfl (left_C P ps PA pc xs XA xc out pe BA bc ct _ (hps.now S) hpn (hxs.now S) hxn (hpe.now S) hpen (leave_T hlv (by omega))) ?_;clear H a
   rintro _ _ a ⟨rfl, S2⟩ H
   replace S := S.call S2;clear S2
   refine ls 5 H <| sr 5 rfl <| sE ?_;clear H a;intro a H
   refine k32 _ _ ?_;clear k32 K32
   refine wp_seq_k fun K33 k33 => ?_
   replace H := H.keep [3, 4, 7, 8, 10, 14, 16, 17] rfl
   refine sS H fun K34 k34=>sr 3 rfl <| sg 3 2 177 180 false rfl rfl (fun hg3 => sy hg3 <| sr 1 rfl <| sy hg3 <| sr 1 rfl <| sy hg3 <| sr 1 rfl <| sz 3 rfl rfl rfl) <| so rfl rfl rfl <| sE ?_;clear H a;intro a H
   refine k34 _ ?_;clear k34 K34
   refine cond_ H rfl (fun hc9 => ?_) (fun hc9 => ?_)
   ·skip
    try simp only [o1,o2,o3,o4,o5,o6,o7,o8,o9,oa] at hc9
    exfalso
    rw [show pe.length = P by omega] at h83
    rw [show i = P by omega] at hc9
    rcases hc9 with h | h
    · first | exact h rfl | exact h trivial
    · exact h h83
   try simp only [o1,o2,o3,o4,o5,o6,o7,o8,o9,oa] at hc9
   refine wp_skip ?_
   refine k33 _ _ ?_
   refine sS H fun K35 k35=>sr 2 rfl <| sE ?_;clear H a;intro a H
   refine k35 _ ?_;clear k35 K35
   refine condL H rfl (fun hc10 => ?_) (fun hc10 => ?_)
   ·skip
    obtain ⟨ct1, hct1⟩ : ∃ n : Nat, ct = n + 1 := ⟨ct - 1, by omega⟩
    replace H := H.keep [3, 4, 7, 8, 10, 14] rfl
    refine seq_list fun K36 k36 => ?_
    refine ls 7 H <| sd ((does_loadBox agg_25 sz_25 rfl S (i := 2) rfl rfl)) <| sf fo_48_0 rfl <| sl S 1 one_3 rfl rfl rfl <| sf fo_48_1 rfl <| sl S 1 one_23 rfl rfl rfl <| sr 1 rfl <| sd ((does_sub rfl rfl (ct_sub hct1 h82).2).to (v' := .int .i64 (ct1 : Int)) (congrArg (Value.int .i64) (ct_sub hct1 h82).1)) <| sE ?_;clear H a;intro a H
    refine list_call H rfl rfl Try.func30 rfl rfl (left_C P ps PA pc xs XA xc out pe BA bc ct1 _ (hps.now S) hpn (hxs.now S) hxn (hpe.now S) hpen (leave_T hlv (by omega))) ?_;clear H a
    rintro _ _ a ⟨rfl, S2⟩ H
    replace S := S.call S2;clear S2
    refine ls 5 H <| sr 5 rfl <| sE ?_;clear H a;intro a H
    refine k36 _ _ ?_;clear k36 K36
    replace H := H.keep [3, 4, 7, 8, 10, 16, 17] rfl
    refine sS H fun K37 k37=>sr 3 rfl <| sg 3 2 197 200 false rfl rfl (fun hg3 => sy hg3 <| sr 1 rfl <| sy hg3 <| sr 1 rfl <| sy hg3 <| sr 1 rfl <| sz 3 rfl rfl rfl) <| so rfl rfl rfl <| sE ?_;clear H a;intro a H
    refine k37 _ ?_;clear k37 K37
    refine cond_ H rfl (fun hc11 => ?_) (fun hc11 => ?_)
    ·skip
     try simp only [o1,o2,o3,o4,o5,o6,o7,o8,o9,oa] at hc11
     exfalso
     have h9 := h84 ct1 (by omega)
     have h8 := mfv_all (T := ct1) hV hou.1 hpk
     rw [show pe.length = P by omega] at h9
     rw [show i = P by omega] at hc11
     rcases hc11 with h | h
     · first | exact h rfl | exact h trivial
     · omega
    try simp only [o1,o2,o3,o4,o5,o6,o7,o8,o9,oa] at hc11
    refine wp_skip ?_
    exact k30 () a _ (trivial) (S.sel [0, 1, 2] rfl rfl) (H.keep [3, 4, 7, 8, 10] rfl)
   refine wp_skip ?_
   exact k30 () a _ (trivial) (S.sel [0, 1, 2] rfl rfl) (H.keep [3, 4, 7, 8, 10] rfl)
  try simp only [o1,o2,o3,o4,o5,o6,o7,o8,o9,oa] at hc8
  refine wp_skip ?_
  exact k30 () a _ (trivial) (S.sel [0, 1, 2] rfl rfl) (H.keep [3, 4, 7, 8, 10] rfl)
 clear SR H S a
 intro xm a wm hp S H
 obtain ⟨x, rfl⟩ : ∃ y, y = xm := ⟨_, rfl⟩
 refine wp_seq_k fun K38 k38 => ?_
 replace H := H.keep [3, 4, 7, 8, 10] rfl
 refine seq_list fun K39 k39 => ?_
 refine ls 4 H <| sd ((does_loadBox agg_25 sz_25 rfl S (i := 2) rfl rfl)) <| sr 1 rfl <| sf fo_48_2 rfl <| sl S 1 one_3 rfl rfl rfl <| sE ?_;clear H a;intro a H
 refine list_call H rfl rfl Try.func28 rfl rfl (law_Crowded P ps PA pc xs XA xc (addL pe mo) Aal cal T _ (hps.now S) hpn (hxs.now S) hxn ((ownM.inS S (i := 0) rfl)) (by rw [addL_len]; omega)) ?_;clear H a
 rintro _ _ a ⟨cb2, rfl, hcb2, S2⟩ H
 replace S := S.call S2;clear S2
 refine ls 1 H <| sr 1 rfl <| sE ?_;clear H a;intro a H
 apply list_guard (i := 5) (g := 207) (t := 215) (b := false) 8 H S rfl rfl (by kernel_rfl) (by kernel_rfl) rfl rfl
 case h1 =>
  intro hg6
  refine ls 6 H <| sy hg6 <| sd ((does_loadBox agg_25 sz_25 rfl S (i := 2) rfl rfl)) <| sy hg6 <| sf fo_48_0 rfl <| sy hg6 <| sl S 1 one_3 rfl rfl rfl <| sy hg6 <| sr 1 rfl <| sy hg6 <| sf fo_48_2 rfl <| sy hg6 <| sl S 1 one_3 rfl rfl rfl <| sE ?_;intro a H
  refine list_yes' H rfl rfl (by assumption) ?_
  refine list_call H rfl rfl Try.func29 rfl rfl (ref_CheckLeave P ps PA pc xs XA xc out (addL pe mo) Aal cal T _ (hps.now S) hpn (hxs.now S) hxn ((ownM.inS S (i := 0) rfl)) (by rw [addL_len]; omega)) ?_
  rintro _ _ a ⟨rfl, S2⟩ H
  replace S := S.call S2;clear S2
  refine ls 1 H <| sy hg6 <| sr 1 rfl <| sE ?_;intro a H
  exact wpList_nil ⟨H.strip 8 rfl rfl, (S.sel [0, 1, 2] rfl rfl)⟩
 clear H a S;intro a _ H S
 refine ls 1 H <| so rfl rfl rfl <| sE ?_;clear H a;intro a H
 refine k39 _ _ ?_;clear k39 K39
 refine cond_ H rfl (fun hc12 => ?_) (fun hc12 => ?_)
 ·skip
  try simp only [o1,o2,o3,o4,o5,o6,o7,o8,o9,oa] at hc12
  replace H := H.keep [] rfl
  refine seq_list fun K40 k40 => ?_
  refine list_call H rfl rfl Try.func15 rfl rfl (law_works _) ?_;clear H a
  rintro _ _ a ⟨rfl, S2⟩ H
  replace S := S.call S2;clear S2
  refine ls 1 H <| sr 1 rfl <| sE ?_;clear H a;intro a H
  refine k40 _ _ ?_;clear k40 K40
  refine wp_ret ?_
  refine ret1 (fn := Try.f9) rfl H rfl ?_
  exact ⟨rfl, (S.sel [] rfl rfl)⟩
 try simp only [o1,o2,o3,o4,o5,o6,o7,o8,o9,oa] at hc12
 obtain ⟨_, _, hcr2, _⟩ := leaveE_ok hc12.2
 obtain ⟨hpa, hpl2⟩ := crowd_ok hcr2
 have hle9 : ∀ p, p < P → pe.getD p 0 ≤ (addL pe mo).getD p 0 := fun p hp => by rw [addL_at (by omega)]; have := hmb p (by omega); omega
 have hmm := mfv_people (T := T) hV hou.1 hpk hpa hle9
 refine wp_skip ?_
 refine k38 _ _ ?_
 replace H := H.keep [3, 4, 7, 8, 10] rfl
 refine seq_list fun K41 k41 => ?_
 refine ls 6 H <| sd ((does_loadBox agg_25 sz_25 rfl S (i := 2) rfl rfl)) <| sf fo_48_0 rfl <| sl S 1 one_3 rfl rfl rfl <| sr 1 rfl <| sf fo_48_2 rfl <| sl S 1 one_3 rfl rfl rfl <| sE ?_;clear H a;intro a H
 refine list_call H rfl rfl Try.func30 rfl rfl (left_C P ps PA pc xs XA xc out (addL pe mo) Aal cal T _ (hps.now S) hpn (hxs.now S) hxn ((ownM.inS S (i := 0) rfl)) (by rw [addL_len]; omega) (hc12.2)) ?_;clear H a
 rintro _ _ a ⟨rfl, S2⟩ H
 replace S := S.call S2;clear S2
 refine ls 5 H <| sr 5 rfl <| sE ?_;clear H a;intro a H
 refine k41 _ _ ?_;clear k41 K41
 replace H := H.keep [7, 8, 10, 18, 19] rfl
 refine sS H fun K42 k42=>sr 1 rfl <| sE ?_;clear H a;intro a H
 refine k42 _ ?_;clear k42 K42
 refine wp_seq_k fun K43 k43 => ?_
 refine sS H fun K44 k44=>sr 1 rfl <| sE ?_;clear H a;intro a H
 refine k44 _ ?_;clear k44 K44
 refine wp_block ?_
 refine loop_st (X := Nat) (R0 := _) [7, 8, 10, 18, 19] H rfl (fun q => [(20, .int .i64 (sumI (addL pe mo) q)), (21, .int .i64 (q : Int))]) (fun q => []) (fun g q => q ≤ (addL pe mo).length ∧ g + q = (addL pe mo).length) ((addL pe mo).length) 0 ?_ (S.sel [0, 1, 2] rfl rfl) (H.keep [20, 21, 7, 8, 10, 18, 19] rfl) ?_
 · exact ⟨by omega, by omega⟩
 clear H S a
 intro g2 x2 a w2 hp S H K45 k45
 obtain ⟨q, rfl⟩ : ∃ y, y = x2 := ⟨_, rfl⟩
 refine wp_seq_k fun K46 k46 => ?_
 refine sS H fun K47 k47=>sr 2 rfl <| sL sl_23 rfl <| sr 1 rfl <| sE ?_;clear H a;intro a H
 refine k47 _ ?_;clear k47 K47
 refine condL H rfl (fun hc13 => ?_) (fun hc13 => ?_)
 ·skip
  refine wp_skip ?_
  refine k46 _ _ ?_
  refine wp_seq_k fun K48 k48 => ?_
  refine wp_block ?_
  have hsb2 := sumI_bd hpa q (by omega)
  have hqa := hpa q (by omega)
  replace H := H.keep [7, 8, 10, 18, 19, 20, 21] rfl
  refine sO H <| sr 3 rfl <| si sl_23 sz_3 rfl rfl (ownM.adr S (i := 0) rfl (by omega)) (by omega) <| slm one_3 rfl (ownM.rd S (i := 0) rfl (by omega) (by omega)) <| sd (does_add rfl rfl (by unfold i64ok; omega)) <| sr 1 rfl <| sE ?_;clear H a;intro a H
  refine k48 _ _ ?_
  replace H := H.keep [7, 8, 10, 18, 19, 20, 21] rfl
  refine sO H <| sr 1 rfl <| sd (does_add rfl rfl (by unfold i64ok; omega)) <| sr 1 rfl <| sE ?_;clear H a;intro a H
  exact k45 (g2 - 1) (q + 1) a _ (by omega) (⟨by omega, by omega⟩) (S.sel [0, 1, 2] rfl rfl) (H.keep [20, 21, 7, 8, 10, 18, 19] rfl)
 refine wp_exit ?_
 refine k43 _ _ ?_
 by_cases hB : mfv P T (addL pe mo) xs (hds out xs ps) = sumI (addL pe mo) q
 ·skip
  obtain rfl : q = (addL pe mo).length := by omega
  have hfw0 := mfv_fewer (T := T) hV hou.1 hpk hpa hle9 (by rw [hB, addL_len, hpl])
  have hfw : mfv P T pe xs (hds out xs ps) = sumI pe i := by rw [show i = P by omega]; exact hfw0
  replace H := H.keep [8, 10, 18, 19, 20] rfl
  refine seq_list fun K51 k51 => ?_
  refine ls 18 H <| sr 1 rfl <| sd (does_eq_t rfl rfl rfl) <| sr 1 rfl <| sy rfl <| sr 1 rfl <| sy rfl <| sr 1 rfl <| sy rfl <| sd (does_ge_t rfl rfl hmm) <| sa rfl rfl rfl <| sr 1 rfl <| sy rfl <| sr 1 rfl <| sy rfl <| sr 1 rfl <| sy rfl <| sd (does_ne_f rfl rfl hB) <| sy rfl <| sr 1 rfl <| sy rfl <| sr 1 rfl <| sy rfl <| sr 1 rfl <| sy rfl <| sd (does_eq_t rfl rfl hfw) <| sy rfl <| so rfl rfl rfl <| sa rfl rfl rfl <| sr 1 rfl <| sE ?_;clear H a;intro a H
  refine list_yes H rfl rfl ?_
  refine list_call H rfl rfl Try.func15 rfl rfl (law_works _) ?_;clear H a
  rintro _ _ a ⟨rfl, S2⟩ H
  replace S := S.call S2;clear S2
  refine ls 2 H <| sa rfl rfl rfl <| sr 1 rfl <| sE ?_;clear H a;intro a H
  refine k51 _ _ ?_;clear k51 K51
  refine wp_ret ?_
  refine ret1 (fn := Try.f9) rfl H rfl ?_
  exact ⟨rfl, (S.sel [] rfl rfl)⟩
 skip
 replace H := H.keep [8, 10, 18, 19, 20] rfl
 refine seq_list fun K52 k52 => ?_
 refine ls 18 H <| sr 1 rfl <| sd (does_eq_t rfl rfl rfl) <| sr 1 rfl <| sy rfl <| sr 1 rfl <| sy rfl <| sr 1 rfl <| sy rfl <| sd (does_ge_t rfl rfl hmm) <| sa rfl rfl rfl <| sr 1 rfl <| sy rfl <| sr 1 rfl <| sy rfl <| sr 1 rfl <| sy rfl <| sd (does_ne_t rfl rfl hB) <| sy rfl <| sr 1 rfl <| sn rfl rfl rfl <| sn rfl rfl rfl <| sn rfl rfl rfl <| sy rfl <| sd ((does_pick rfl rfl rfl)) <| sa rfl rfl rfl <| sr 1 rfl <| sE ?_;clear H a;intro a H
 refine list_yes H rfl rfl ?_
 refine list_call H rfl rfl Try.func15 rfl rfl (law_works _) ?_;clear H a
 rintro _ _ a ⟨rfl, S2⟩ H
 replace S := S.call S2;clear S2
 refine ls 2 H <| sa rfl rfl rfl <| sr 1 rfl <| sE ?_;clear H a;intro a H
 refine k52 _ _ ?_;clear k52 K52
 refine wp_ret ?_
 refine ret1 (fn := Try.f9) rfl H rfl ?_
 exact ⟨rfl, (S.sel [] rfl rfl)⟩

end Go.Proofs.Ytlmddkekeoebcaa
