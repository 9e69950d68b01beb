/- CiE. Printed by gen.py. -/
import Derived.Test.YtdepakimbagonaaCiD
namespace Go.Proofs.Ytdepakimbagonaa
open Go.RowKit
set_option linter.unusedVariables false
set_option linter.unusedSimpArgs false
set_option maxRecDepth 100000
set_option maxHeartbeats 4000000


theorem sz_all {hz : Int} {sw : List Int} {ws : List Wr} : ([(decide (1 ≤ hz) && decide (hz ≤ 8)), (decide (1 ≤ (sw.length : Int)) && decide ((sw.length : Int) ≤ 12)), (decide (1 ≤ (ws.length : Int)) && decide ((ws.length : Int) ≤ 24))].all fun b => b) = cirSz hz sw ws := by unfold cirSz; simp only [List.all_cons, List.all_nil, Bool.and_true]
section
variable {hz : Int} {sw : List Int} {ws : List Wr} {i : Nat}
theorem cir_bad1 (h : cirSz hz sw ws = false) : circE hz sw ws = 30 := circ_bad (by unfold cirOk; rw [h]; rfl)
theorem cir_bad2 (h : (sw.any fun n => !setB n hz) = true) : circE hz sw ws = 30 := circ_bad (by unfold cirOk; rw [h]; simp)
theorem cir_bad3 (hi : i < ws.length) (h : wrOk sw.length ws.length ws i = false) : circE hz sw ws = 30 := circ_bad (by
  unfold cirOk
  cases hb : (List.range ws.length).all (wrOk sw.length ws.length ws) with
  | false => simp
  | true => rw [List.all_eq_true.1 hb i (List.mem_range.2 hi)] at h; cases h)
theorem cir_bad4 (h : ¬ heldN ws 0 ws.length = 0) : circE hz sw ws = 30 := circ_bad (by unfold cirOk; rw [decide_eq_false h]; simp)
theorem cir_bad5 (h : ((List.range (ws.length - 1)).any fun q => !decide (heldN ws (q + 1) ws.length = 1)) = true) : circE hz sw ws = 30 := circ_bad (by unfold cirOk; rw [h]; simp)
theorem cir_good (h1 : cirSz hz sw ws = true) (h2 : (sw.any fun n => !setB n hz) = false) (h3 : ∀ i, i < ws.length → wrOk sw.length ws.length ws i = true) (h4 : heldN ws 0 ws.length = 0) (h5 : ((List.range (ws.length - 1)).any fun q => !decide (heldN ws (q + 1) ws.length = 1)) = false) : circE hz sw ws = 0 := circ_zero (by
  unfold cirOk
  rw [h1, h2, decide_eq_true h4, h5, List.all_eq_true.2 (fun i hi => h3 i (List.mem_range.1 hi))]; rfl)
theorem sz_ok (h : cirSz hz sw ws = true) : (1 ≤ hz ∧ hz ≤ 8) ∧ (1 ≤ sw.length ∧ sw.length ≤ 12) ∧ (1 ≤ ws.length ∧ ws.length ≤ 24) := by
  unfold cirSz at h
  simp only [Bool.and_eq_true, decide_eq_true_eq] at h
  omega
theorem cntO_bd {l : List Int} {k : Nat} : ∀ q, 0 ≤ cntO l k q ∧ cntO l k q ≤ q := fun q => by
  induction q with
  | zero => exact ⟨Int.le_refl _, Int.le_refl _⟩
  | succ q ih =>
    have e : cntO l k (q + 1) = cntO l k q + (if l.getD q 0 = (k : Int) then 1 else 0) := rfl
    rw [e]; split <;> omega
theorem heldN_next {k i : Nat} : heldN ws k (i + 1) = heldN ws k i + heldW (ws.getD i Wr.zero) k := rfl
theorem held_bd (k : Nat) : ∀ i, (∀ q, q < i → wrOk sw.length ws.length ws q = true) → 0 ≤ heldN ws k i ∧ heldN ws k i ≤ 8 * i := fun i => by
  induction i with
  | zero => intro _; exact ⟨Int.le_refl _, Int.le_refl _⟩
  | succ i ih =>
    intro h
    have h1 := ih fun q hq => h q (by omega)
    have h2 := h i (by omega)
    rw [heldN_next]
    unfold heldW
    split
    · omega
    · next hk =>
      unfold wrOk at h2
      rw [if_neg hk] at h2
      split at h2
      · simp only [Bool.and_eq_true, decide_eq_true_eq] at h2
        have := cntO_bd (l := (ws.getD i Wr.zero).of) (k := k) (ws.getD i Wr.zero).of.length
        omega
      · cases h2
end
section
variable {sw l : List Int} {ws : List Wr} {i k j q : Nat}
theorem wr_one (hk : (ws.getD i Wr.zero).kind = 1) (h1 : (ws.getD i Wr.zero).of.length = 1) (h : ascB (ws.getD i Wr.zero).of 0 sw.length = true) : wrOk sw.length ws.length ws i = true := by
  unfold wrOk; rw [if_pos hk, h, decide_eq_true h1]; rfl
theorem wr_one_bad (hk : (ws.getD i Wr.zero).kind = 1) (h : ¬ ((ws.getD i Wr.zero).of.length : Int) = 1 ∨ ascB (ws.getD i Wr.zero).of 0 sw.length = false) : wrOk sw.length ws.length ws i = false := by
  unfold wrOk; rw [if_pos hk]
  rcases h with h | h
  · rw [decide_eq_false (by omega)]; rfl
  · rw [h]; simp
theorem wr_more (h1 : ¬ (ws.getD i Wr.zero).kind = 1) (hk : (ws.getD i Wr.zero).kind = 2 ∨ (ws.getD i Wr.zero).kind = 3) (h2 : 1 ≤ (ws.getD i Wr.zero).of.length ∧ (ws.getD i Wr.zero).of.length ≤ 8) (h : ascB (ws.getD i Wr.zero).of ((i : Int) + 1) ws.length = true) : wrOk sw.length ws.length ws i = true := by
  unfold wrOk; rw [if_neg h1, if_pos hk, h, decide_eq_true h2]; rfl
theorem wr_more_bad (h1 : ¬ (ws.getD i Wr.zero).kind = 1) (hk : (ws.getD i Wr.zero).kind = 2 ∨ (ws.getD i Wr.zero).kind = 3) (h : (((ws.getD i Wr.zero).of.length : Int) < 1 ∨ 8 < ((ws.getD i Wr.zero).of.length : Int)) ∨ ascB (ws.getD i Wr.zero).of ((i : Int) + 1) ws.length = false) : wrOk sw.length ws.length ws i = false := by
  unfold wrOk; rw [if_neg h1, if_pos hk]
  rcases h with h | h
  · rw [decide_eq_false (by omega)]; rfl
  · rw [h]; simp
theorem wr_none (h1 : ¬ (ws.getD i Wr.zero).kind = 1) (h2 : ¬ (ws.getD i Wr.zero).kind = 2) (h3 : ¬ (ws.getD i Wr.zero).kind = 3) : wrOk sw.length ws.length ws i = false := by
  unfold wrOk; rw [if_neg h1, if_neg (fun h => h.elim h2 h3)]
theorem held_one (h1 : (ws.getD i Wr.zero).kind = 1) : heldN ws k i = heldN ws k (i + 1) := by rw [heldN_next]; unfold heldW; rw [if_pos h1, Int.add_zero]
theorem held_more (h1 : ¬ (ws.getD i Wr.zero).kind = 1) (hq : q = (ws.getD i Wr.zero).of.length) : heldN ws k i + cntO (ws.getD i Wr.zero).of k q = heldN ws k (i + 1) := by rw [heldN_next]; unfold heldW; rw [if_neg h1, hq]
theorem held_put (hx : 0 ≤ l.getD q 0) (hj : j < 1) : cput (fun k _ => .int .i64 (heldN ws k i + cntO l k q)) (l.getD q 0).toNat 0 (.int .i64 (heldN ws (l.getD q 0).toNat i + cntO l (l.getD q 0).toNat q + 1)) k j = .int .i64 (heldN ws k i + cntO l k (q + 1)) := by
  have e : cntO l k (q + 1) = cntO l k q + (if l.getD q 0 = (k : Int) then 1 else 0) := rfl
  unfold cput
  rw [e]
  by_cases h : k = (l.getD q 0).toNat
  · rw [if_pos ⟨h, by omega⟩, if_pos (by omega), ← h, Int.add_assoc]
  · rw [if_neg (fun h9 => h h9.1), if_neg (by omega), Int.add_zero]
end
theorem heldL_len {ws : List Wr} : ((List.range (ws.length - 1)).map fun q => heldN ws (q + 1) ws.length).length = ws.length - 1 := by rw [List.length_map, List.length_range]
theorem heldL_any {ws : List Wr} : (((List.range (ws.length - 1)).map fun q => heldN ws (q + 1) ws.length).any fun n => !decide (n = 1)) = (List.range (ws.length - 1)).any fun q => !decide (heldN ws (q + 1) ws.length = 1) := by rw [List.any_map]; rfl
theorem heldL_at {ws : List Wr} {q : Nat} (h : q < ws.length - 1) : ((List.range (ws.length - 1)).map fun q => heldN ws (q + 1) ws.length).getD q 0 = heldN ws (q + 1) ws.length := by
  rw [List.getD_eq_getElem?_getD, List.getElem?_eq_getElem (by rw [heldL_len]; exact h), Option.getD_some, List.getElem_map, List.getElem_range]
theorem heldL_in {ws : List Wr} {w : World} {A : Option Addr} (h : InS w noF 1 A ws.length (fun k _ => .int .i64 (heldN ws k ws.length))) (hw : 1 ≤ ws.length) : InS w noF 1 (cutA A ws.length 1 1) ((List.range (ws.length - 1)).map fun q => heldN ws (q + 1) ws.length).length (icl ((List.range (ws.length - 1)).map fun q => heldN ws (q + 1) ws.length)) := by
  rw [heldL_len]
  refine (h.cut (lo := 1) (hi := ws.length) hw (Nat.le_refl _) (Nat.le_refl _)).congr fun k j hk hj => ?_
  unfold icl
  rw [heldL_at hk, Nat.add_comm 1 k]


theorem cir_Check (hz : Int) (sw : List Int) (SA : Option Addr) (sc : Nat) (ws : List Wr) (QA : Option Addr) (qc : Nat) (OA : Nat → Option Addr) (oc : Nat → Nat) (w : World) (hsw : InS w noF 1 SA sw.length (icl sw)) (hws : InS w noF 2 QA ws.length (wrcell ws OA oc)) (hof : ∀ k, k < ws.length → InS w noF 1 (OA k) (ws.getD k Wr.zero).of.length (icl (ws.getD k Wr.zero).of)) (hsn : sw.length ≤ 9223372036854775807) (hwn : ws.length ≤ 9223372036854775807) (hofn : ∀ k, k < ws.length → (ws.getD k Wr.zero).of.length ≤ 9223372036854775807) :
    Calls Try.prog 70 [.agg [.int .i64 hz, .slice SA sw.length sc, .slice QA ws.length qc].toArray].toArray w (Ret (fun u w' => u = .int .i64 (circE hz sw ws) ∧ St w noF [] w')) := by
 refine enter Try.func70 rfl Try.ntmps70 rfl (fun a H => ?_)
 have S := St.start w
 refine seq_list fun K1 k1 => ?_
 refine list_box H rfl S rfl rfl ?_;clear H a S;intro b1 _ a hb1 hbw1 S H
 refine ls 1 H <| sr 1 rfl <| sE ?_;clear H a;intro a H
 refine k1 _ _ ?_;clear k1 K1
 replace H := H.keep [1] rfl
 refine seq_list fun K2 k2 => ?_
 refine ls 28 H <| sf fo_85_0 rfl <| sl S 0 one_3 rfl rfl rfl <| sr 2 rfl <| sg 3 3 12 15 true rfl rfl (fun hg4 => sy hg4 <| sf fo_85_0 rfl <| sy hg4 <| sl S 0 one_3 rfl rfl rfl <| sy hg4 <| sr 1 rfl <| sz 3 rfl rfl rfl) <| sa rfl rfl rfl <| sf fo_85_1 rfl <| sl S 0 one_25 rfl rfl rfl <| sL sl_25 rfl <| sr 2 rfl <| sg 4 12 21 25 true rfl rfl (fun hg13 => sy hg13 <| sf fo_85_1 rfl <| sy hg13 <| sl S 0 one_25 rfl rfl rfl <| sy hg13 <| sL sl_25 rfl <| sy hg13 <| sr 1 rfl <| sz 4 rfl rfl rfl) <| sa rfl rfl rfl <| sf fo_85_2 rfl <| sl S 0 one_83 rfl rfl rfl <| sL sl_83 rfl <| sr 2 rfl <| sg 4 22 31 35 true rfl rfl (fun hg23 => sy hg23 <| sf fo_85_2 rfl <| sy hg23 <| sl S 0 one_83 rfl rfl rfl <| sy hg23 <| sL sl_83 rfl <| sy hg23 <| sr 1 rfl <| sz 4 rfl rfl rfl) <| sa rfl rfl rfl <| sE ?_;clear H a;intro a H
 refine list_build' H rfl S sl_163 sz_4 ze_4 rfl rfl rfl rfl rfl rfl rfl rfl rfl ?_;clear H a S;intro A1 _ a hA1 S H
 replace S := S.recell (i := 0) rfl (cell' := bcl [(decide (1 ≤ hz) && decide (hz ≤ 8)), (decide (1 ≤ (sw.length : Int)) && decide ((sw.length : Int) ≤ 12)), (decide (1 ≤ (ws.length : Int)) && decide ((ws.length : Int) ≤ 24))]) (bthree rfl rfl rfl)
 refine ls 1 H <| sr 1 rfl <| sE ?_;clear H a;intro a H
 refine k2 _ _ ?_;clear k2 K2
 refine wp_seq_k fun K3 k3 => ?_
 replace H := H.keep [1, 3] rfl
 refine seq_list fun K4 k4 => ?_
 refine ls 1 H <| sr 1 rfl <| sE ?_;clear H a;intro a H
 refine list_call H rfl rfl Try.func80 rfl rfl (cir_ContainsB [(decide (1 ≤ hz) && decide (hz ≤ 8)), (decide (1 ≤ (sw.length : Int)) && decide ((sw.length : Int) ≤ 12)), (decide (1 ≤ (ws.length : Int)) && decide ((ws.length : Int) ≤ 24))] _ _ _ (ownM.inS S (i := 0) rfl) (by simp)) ?_;clear H a
 rintro _ _ a ⟨rfl, S2⟩ H
 replace S := S.call S2;clear S2
 rw [sz_all] at H
 refine ls 1 H <| sr 1 rfl <| sE ?_;clear H a;intro a H
 apply list_guard (i := 2) (g := 40) (t := 44) (b := false) 4 H S rfl rfl (by kernel_rfl) (by kernel_rfl) rfl rfl
 case h1 =>
  intro hg3
  refine ls 3 H <| sy hg3 <| sf fo_85_1 rfl <| sy hg3 <| sl S 1 one_25 rfl rfl rfl <| sy hg3 <| sr 1 rfl <| sE ?_;intro a H
  refine list_yes' H rfl rfl (by assumption) ?_
  have S1 := (S.sel [1] rfl rfl)
  refine list_call H rfl rfl Try.func81 rfl rfl (cir_CF3 hz sw SA sc ws QA qc b1 _ _ S1.startR (hsw.nowR S1) hsn (by have := sz_ok (hz := hz) (sw := sw) (ws := ws) (by simpa using hg3); omega)) ?_
  rintro _ _ a ⟨rfl, S2⟩ H
  replace S := (S.sel [1, 0] rfl rfl).callR (M := [_]) S2; clear S1 S2
  exact wpList_nil ⟨H.strip 4 rfl rfl, (S.sel [1, 0] rfl rfl)⟩
 clear H a S;intro a _ H S
 refine ls 1 H <| so rfl rfl rfl <| sE ?_;clear H a;intro a H
 refine k4 _ _ ?_;clear k4 K4
 refine cond_ H rfl (fun hc1 => ?_) (fun hc1 => ?_)
 ·skip
  try simp only [o1,o2,o3,o4,o5,o6,o7,o8,o9,oa] at hc1
  refine sS H fun K5 k5=>sr 1 rfl <| sE ?_;clear H a;intro a H
  refine k5 _ ?_;clear k5 K5
  refine wp_ret ?_
  refine ret1 (fn := Try.f70) rfl H rfl ?_
  rw [show circE hz sw ws = 30 from hc1.elim cir_bad1 cir_bad2]; exact ⟨rfl, (S.sel [] rfl rfl)⟩
 try simp only [o1,o2,o3,o4,o5,o6,o7,o8,o9,oa] at hc1
 refine wp_skip ?_
 refine k3 _ _ ?_
 obtain ⟨hS1, hS2, hS3⟩ := sz_ok hc1.1
 replace H := H.keep [1] rfl
 refine seq_list fun K6 k6 => ?_
 refine ls 3 H <| sf fo_85_2 rfl <| sl S 1 one_83 rfl rfl rfl <| sL sl_83 rfl <| sE ?_;clear H a;intro a H
 refine list_make (n := ws.length) H rfl S sl_25 sz_3 ze_3 by_3 rfl (by decide) rfl rfl (by omega) (by omega) ?_;clear H a S;intro A2 _ a hA2 S H
 generalize A2 = AH at S H
 replace S := S.recell (i := 0) rfl (cell' := fun k _ => .int .i64 (heldN ws k 0)) (fun k j _ hj => by
   obtain rfl : j = 0 := by omega
   rfl)
 refine ls 1 H <| sr 1 rfl <| sE ?_;clear H a;intro a H
 refine k6 _ _ ?_;clear k6 K6
 refine wp_seq_k fun K7 k7 => ?_
 refine sS H fun K8 k8=>sf fo_85_2 rfl <| sl S 2 one_83 rfl rfl rfl <| sL sl_83 rfl <| sr 1 rfl <| sE ?_;clear H a;intro a H
 refine k8 _ ?_;clear k8 K8
 refine wp_block ?_
 refine loop_st (X := Nat) (R0 := _) [1, 4, 51, 52] H rfl (fun i => [(53, .int .i64 (i : Int))]) (fun i => [ownM 3 1 AH ws.length ws.length (fun k _ => .int .i64 (heldN ws k i))]) (fun g i => i ≤ ws.length ∧ g + i = ws.length ∧ ∀ q, q < i → wrOk sw.length ws.length ws q = true) (ws.length) 0 ?_ (S.sel [0, 1, 2] rfl rfl) (H.keep [53, 1, 4, 51, 52] rfl) ?_
 · exact ⟨by omega, by omega, fun q hq => absurd hq (Nat.not_lt_zero q)⟩
 clear H S a
 intro g1 x1 a w1 hp S H K9 k9
 obtain ⟨i, rfl⟩ : ∃ y, y = x1 := ⟨_, rfl⟩
 obtain ⟨hi1, hi2, hwk⟩ := hp
 refine sS H fun K10 k10=>sr 1 rfl <| sE ?_;clear H a;intro a H
 refine k10 _ ?_;clear k10 K10
 refine wp_seq_k fun K11 k11 => ?_
 refine condL H rfl (fun hc2 => ?_) (fun hc2 => ?_)
 ·skip
  refine wp_skip ?_
  refine k11 _ _ ?_
  refine wp_seq_k fun K12 k12 => ?_
  refine wp_block ?_
  refine seq_list fun K13 k13 => ?_
  refine ls 3 H <| sr 1 rfl <| si sl_83 sz_125 rfl rfl (hws.adr (by omega)) (by omega) <| sd ((does_loadIn agg_125 sz_125 rfl S hws (by omega) (by omega))) <| sE ?_;clear H a;intro a H
  refine list_alloc H rfl S ze_125 ?_;clear H a S;intro b6 _ a hb6 hbw6 S H
  refine ls 1 H <| sr 1 rfl <| sE ?_;clear H a;intro a H
  refine list_store H S (i := 0) rfl rfl rfl rfl sz_125 rfl rfl ?_
  clear H a S;intro _ a S H
  refine k13 _ _ ?_;clear k13 K13
  refine sS H fun K14 k14=>sf fo_125_0 rfl <| sl S 0 one_3 rfl rfl rfl <| sE ?_;clear H a;intro a H
  refine k14 _ ?_;clear k14 K14
  refine wp_block ?_
  replace H := H.keep [1, 4, 5, 6, 51, 52, 53, 59] rfl
  refine sS H fun K15 k15=>sr 2 rfl <| sE ?_;clear H a;intro a H
  refine k15 _ ?_;clear k15 K15
  refine condE H rfl (fun hc3 => ?_) (fun hc3 => ?_)
  ·skip
   replace H := H.keep [1, 4, 6, 51, 52, 53] rfl
   refine seq_list fun K16 k16 => ?_
   refine ls 5 H <| sf fo_125_1 rfl <| sl S 0 one_25 rfl rfl rfl <| sL sl_25 rfl <| sr 2 rfl <| sE ?_;clear H a;intro a H
   apply list_guard (i := 4) (g := 66) (t := 73) (b := false) 7 H S rfl rfl (by kernel_rfl) (by kernel_rfl) rfl rfl
   case h1 =>
    intro hg5
    refine ls 5 H <| sy hg5 <| sf fo_125_1 rfl <| sy hg5 <| sl S 0 one_25 rfl rfl rfl <| sy hg5 <| sf fo_85_1 rfl <| sy hg5 <| sl S 3 one_25 rfl rfl rfl <| sy hg5 <| sL sl_25 rfl <| sE ?_;intro a H
    refine list_yes' H rfl rfl (by assumption) ?_
    refine list_call H rfl rfl Try.func84 rfl rfl (cir_ascending (ws.getD i Wr.zero).of (OA i) (oc i) _ _ _ ((hof i (by omega)).now S) (hofn i (by omega)) (by omega) (by omega)) ?_
    rintro _ _ a ⟨rfl, S2⟩ H
    replace S := S.call S2;clear S2
    refine ls 1 H <| sy hg5 <| sr 1 rfl <| sE ?_;intro a H
    exact wpList_nil ⟨H.strip 7 rfl rfl, (S.sel [0, 1, 2, 3] rfl rfl)⟩
   clear H a S;intro a _ H S
   refine ls 1 H <| so rfl rfl rfl <| sE ?_;clear H a;intro a H
   refine k16 _ _ ?_;clear k16 K16
   refine cond_ H rfl (fun hc4 => ?_) (fun hc4 => ?_)
   ·skip
    try simp only [o1,o2,o3,o4,o5,o6,o7,o8,o9,oa] at hc4
    replace H := H.keep [] rfl
    refine sS H fun K17 k17=>sr 1 rfl <| sE ?_;clear H a;intro a H
    refine k17 _ ?_;clear k17 K17
    refine wp_ret ?_
    refine ret1 (fn := Try.f70) rfl H rfl ?_
    rw [cir_bad3 (by omega) (wr_one_bad hc3 hc4)]; exact ⟨rfl, (S.sel [] rfl rfl)⟩
   try simp only [o1,o2,o3,o4,o5,o6,o7,o8,o9,oa] at hc4
   refine wp_skip ?_
   refine k12 _ _ ?_
   replace S := S.recell (i := 1) rfl (cell' := fun k _ => .int .i64 (heldN ws k (i + 1))) (fun k j _ _ => congrArg (Value.int .i64) (by first | exact held_one hc3 | exact held_more hc3 (by omega)))
   refine sO H <| sd (does_add rfl rfl (by unfold i64ok; omega)) <| sr 1 rfl <| sE ?_;clear H a;intro a H
   exact k9 (g1 - 1) (i + 1) a _ (by omega) (⟨by omega, by omega, fun q hq => if h9 : q < i then hwk q h9 else by
         obtain rfl : q = i := by omega
         first | exact wr_one hc3 (by omega) hc4.2 | exact wr_more hc3 (.inl hc5) (by omega) hc7.2 | exact wr_more hc3 (.inr hc9) (by omega) hc10.2⟩) (S.sel [1, 2, 3] rfl rfl) (H.keep [53, 1, 4, 51, 52] rfl)
  refine wp_seq_k fun K19 k19 => ?_
  refine sS H fun K20 k20=>sr 2 rfl <| sE ?_;clear H a;intro a H
  refine k20 _ ?_;clear k20 K20
  refine condE H rfl (fun hc5 => ?_) (fun hc5 => ?_)
  ·skip
   refine wp_skip ?_
   refine k19 _ _ ?_
   refine cond_ H rfl (fun hc6 => ?_) (fun hc6 => ?_)
   ·skip
    try simp only [o1,o2,o3,o4,o5,o6,o7,o8,o9,oa] at hc6
    refine wp_seq_k fun K21 k21 => ?_
    replace H := H.keep [1, 4, 5, 6, 51, 52, 53] rfl
    refine seq_list fun K22 k22 => ?_
    refine ls 11 H <| sf fo_125_1 rfl <| sl S 0 one_25 rfl rfl rfl <| sL sl_25 rfl <| sr 2 rfl <| sg 4 4 82 86 false rfl rfl (fun hg5 => sy hg5 <| sf fo_125_1 rfl <| sy hg5 <| sl S 0 one_25 rfl rfl rfl <| sy hg5 <| sL sl_25 rfl <| sy hg5 <| sr 1 rfl <| sz 4 rfl rfl rfl) <| so rfl rfl rfl <| sr 1 rfl <| sE ?_;clear H a;intro a H
    apply list_guard (i := 10) (g := 88) (t := 97) (b := false) 9 H S rfl rfl (by kernel_rfl) (by kernel_rfl) rfl rfl
    case h1 =>
     intro hg11
     refine ls 7 H <| sy hg11 <| sf fo_125_1 rfl <| sy hg11 <| sl S 0 one_25 rfl rfl rfl <| sy hg11 <| sr 1 rfl <| sy hg11 <| sd (does_add rfl rfl (by unfold i64ok; omega)) <| sy hg11 <| sf fo_85_2 rfl <| sy hg11 <| sl S 3 one_83 rfl rfl rfl <| sy hg11 <| sL sl_83 rfl <| sE ?_;intro a H
     refine list_yes' H rfl rfl (by assumption) ?_
     refine list_call H rfl rfl Try.func84 rfl rfl (cir_ascending (ws.getD i Wr.zero).of (OA i) (oc i) _ _ _ ((hof i (by omega)).now S) (hofn i (by omega)) (by omega) (by omega)) ?_
     rintro _ _ a ⟨rfl, S2⟩ H
     replace S := S.call S2;clear S2
     refine ls 1 H <| sy hg11 <| sr 1 rfl <| sE ?_;intro a H
     exact wpList_nil ⟨H.strip 9 rfl rfl, (S.sel [0, 1, 2, 3] rfl rfl)⟩
    clear H a S;intro a _ H S
    refine ls 1 H <| so rfl rfl rfl <| sE ?_;clear H a;intro a H
    refine k22 _ _ ?_;clear k22 K22
    refine cond_ H rfl (fun hc7 => ?_) (fun hc7 => ?_)
    ·skip
     try simp only [o1,o2,o3,o4,o5,o6,o7,o8,o9,oa] at hc7
     replace H := H.keep [] rfl
     refine sS H fun K23 k23=>sr 1 rfl <| sE ?_;clear H a;intro a H
     refine k23 _ ?_;clear k23 K23
     refine wp_ret ?_
     refine ret1 (fn := Try.f70) rfl H rfl ?_
     rw [cir_bad3 (by omega) (wr_more_bad hc3 (.inl hc5) hc7)]; exact ⟨rfl, (S.sel [] rfl rfl)⟩
    try simp only [o1,o2,o3,o4,o5,o6,o7,o8,o9,oa] at hc7
    refine wp_skip ?_
    refine k21 _ _ ?_
    refine sS H fun K24 k24=>sf fo_125_1 rfl <| sl S 0 one_25 rfl rfl rfl <| sL sl_25 rfl <| sr 1 rfl <| sE ?_;clear H a;intro a H
    refine k24 _ ?_;clear k24 K24
    refine wp_block ?_
    replace S := S.recell (i := 1) rfl (cell' := fun k _ => .int .i64 (heldN ws k i + cntO (ws.getD i Wr.zero).of k 0)) (fun k j _ hj => congrArg (Value.int .i64) (Int.add_zero _).symm)
    refine loop_st (X := Nat) (R0 := _) [1, 4, 51, 52, 53, 100, 101] H rfl (fun q => [(102, .int .i64 (q : Int))]) (fun q => [ownM 3 1 AH ws.length ws.length (fun k _ => .int .i64 (heldN ws k i + cntO (ws.getD i Wr.zero).of k q))]) (fun g q => q ≤ (ws.getD i Wr.zero).of.length ∧ g + q = (ws.getD i Wr.zero).of.length) ((ws.getD i Wr.zero).of.length) 0 ?_ (S.sel [1, 0, 2, 3] rfl rfl) (H.keep [102, 1, 4, 51, 52, 53, 100, 101] rfl) ?_
    · exact ⟨by omega, by omega⟩
    clear H S a
    intro g2 x2 a w2 hp S H K25 k25
    obtain ⟨q, rfl⟩ : ∃ y, y = x2 := ⟨_, rfl⟩
    refine sS H fun K26 k26=>sr 1 rfl <| sE ?_;clear H a;intro a H
    refine k26 _ ?_;clear k26 K26
    refine wp_seq_k fun K27 k27 => ?_
    refine condL H rfl (fun hc8 => ?_) (fun hc8 => ?_)
    ·skip
     refine wp_skip ?_
     refine k27 _ _ ?_
     refine wp_seq_k fun K28 k28 => ?_
     refine wp_block ?_
     refine sS H fun K29 k29=>si sl_25 sz_3 rfl rfl ((hof i (by omega)).adr (by omega)) (by omega) <| slm one_3 rfl ((hof i (by omega)).rd S (by omega) (by omega)) <| sr 1 rfl <| sE ?_;clear H a;intro a H
     refine k29 _ ?_;clear k29 K29
     have hhb := held_bd (sw := sw) (ws := ws) ((ws.getD i Wr.zero).of.getD q 0).toNat i hwk
     have hcb := cntO_bd (l := (ws.getD i Wr.zero).of) (k := ((ws.getD i Wr.zero).of.getD q 0).toNat) q
     have hxb : (i : Int) + 1 ≤ (ws.getD i Wr.zero).of.getD q 0 ∧ (ws.getD i Wr.zero).of.getD q 0 < (ws.length : Int) := by first | exact asc_ge hc7.2 (k := q) (by omega) | exact asc_ge hc10.2 (k := q) (by omega)
     replace H := H.keep [1, 4, 8, 51, 52, 53, 100, 101, 102] rfl
     refine one_list ?_
     refine ls 6 H <| sr 2 rfl <| sI sl_25 sz_3 rfl rfl (ownM.adr S (i := 0) rfl (by omega)) (by omega) (by omega) <| slm one_3 rfl (ownM.rd S (i := 0) rfl (by omega) (by omega)) <| sd (does_add rfl rfl (by unfold i64ok; omega)) <| sI sl_25 sz_3 rfl rfl (ownM.adr S (i := 0) rfl (by omega)) (by omega) (by omega) <| sE ?_;clear H a;intro a H
     refine list_store_own H S (i := 0) rfl rfl rfl (by omega) (by omega) sz_3 rfl ?_
     clear H a S;intro _ a S H
     replace S := S.recell (i := 0) rfl (cell' := fun k _ => .int .i64 (heldN ws k i + cntO (ws.getD i Wr.zero).of k (q + 1))) (fun k j _ hj => held_put (by omega) hj)
     refine k28 _ _ ?_
     refine sO H <| sd (does_add rfl rfl (by unfold i64ok; omega)) <| sr 1 rfl <| sE ?_;clear H a;intro a H
     exact k25 (g2 - 1) (q + 1) a _ (by omega) (⟨by omega, by omega⟩) (S.sel [0, 1, 2, 3] rfl rfl) (H.keep [102, 1, 4, 51, 52, 53, 100, 101] rfl)
    refine wp_exit ?_
    refine k12 _ _ ?_
    replace S := S.recell (i := 0) rfl (cell' := fun k _ => .int .i64 (heldN ws k (i + 1))) (fun k j _ _ => congrArg (Value.int .i64) (by first | exact held_one hc3 | exact held_more hc3 (by omega)))
    replace H := H.keep [1, 4, 51, 52, 53] rfl
    refine sO H <| sd (does_add rfl rfl (by unfold i64ok; omega)) <| sr 1 rfl <| sE ?_;clear H a;intro a H
    exact k9 (g1 - 1) (i + 1) a _ (by omega) (⟨by omega, by omega, fun q hq => if h9 : q < i then hwk q h9 else by
          obtain rfl : q = i := by omega
          first | exact wr_one hc3 (by omega) hc4.2 | exact wr_more hc3 (.inl hc5) (by omega) hc7.2 | exact wr_more hc3 (.inr hc9) (by omega) hc10.2⟩) (S.sel [0, 2, 3] rfl rfl) (H.keep [53, 1, 4, 51, 52] rfl)
   try simp only [o1,o2,o3,o4,o5,o6,o7,o8,o9,oa] at hc6
   refine sS H fun K33 k33=>sr 1 rfl <| sE ?_;clear H a;intro a H
   refine k33 _ ?_;clear k33 K33
   refine wp_ret ?_
   refine ret1 (fn := Try.f70) rfl H rfl ?_
   exact absurd hc5 hc6
  refine sO H <| sr 2 rfl <| sE ?_;clear H a;intro a H
  refine k19 _ _ ?_
  refine condE H rfl (fun hc9 => ?_) (fun hc9 => ?_)
  ·skip
   refine wp_seq_k fun K35 k35 => ?_
   replace H := H.keep [1, 4, 5, 6, 51, 52, 53] rfl
   refine seq_list fun K36 k36 => ?_
   refine ls 11 H <| sf fo_125_1 rfl <| sl S 0 one_25 rfl rfl rfl <| sL sl_25 rfl <| sr 2 rfl <| sg 4 4 82 86 false rfl rfl (fun hg5 => sy hg5 <| sf fo_125_1 rfl <| sy hg5 <| sl S 0 one_25 rfl rfl rfl <| sy hg5 <| sL sl_25 rfl <| sy hg5 <| sr 1 rfl <| sz 4 rfl rfl rfl) <| so rfl rfl rfl <| sr 1 rfl <| sE ?_;clear H a;intro a H
   apply list_guard (i := 10) (g := 88) (t := 97) (b := false) 9 H S rfl rfl (by kernel_rfl) (by kernel_rfl) rfl rfl
   case h1 =>
    intro hg11
    refine ls 7 H <| sy hg11 <| sf fo_125_1 rfl <| sy hg11 <| sl S 0 one_25 rfl rfl rfl <| sy hg11 <| sr 1 rfl <| sy hg11 <| sd (does_add rfl rfl (by unfold i64ok; omega)) <| sy hg11 <| sf fo_85_2 rfl <| sy hg11 <| sl S 3 one_83 rfl rfl rfl <| sy hg11 <| sL sl_83 rfl <| sE ?_;intro a H
    refine list_yes' H rfl rfl (by assumption) ?_
    refine list_call H rfl rfl Try.func84 rfl rfl (cir_ascending (ws.getD i Wr.zero).of (OA i) (oc i) _ _ _ ((hof i (by omega)).now S) (hofn i (by omega)) (by omega) (by omega)) ?_
    rintro _ _ a ⟨rfl, S2⟩ H
    replace S := S.call S2;clear S2
    refine ls 1 H <| sy hg11 <| sr 1 rfl <| sE ?_;intro a H
    exact wpList_nil ⟨H.strip 9 rfl rfl, (S.sel [0, 1, 2, 3] rfl rfl)⟩
   clear H a S;intro a _ H S
   refine ls 1 H <| so rfl rfl rfl <| sE ?_;clear H a;intro a H
   refine k36 _ _ ?_;clear k36 K36
   refine cond_ H rfl (fun hc10 => ?_) (fun hc10 => ?_)
   ·skip
    try simp only [o1,o2,o3,o4,o5,o6,o7,o8,o9,oa] at hc10
    replace H := H.keep [] rfl
    refine sS H fun K37 k37=>sr 1 rfl <| sE ?_;clear H a;intro a H
    refine k37 _ ?_;clear k37 K37
    refine wp_ret ?_
    refine ret1 (fn := Try.f70) rfl H rfl ?_
    rw [cir_bad3 (by omega) (wr_more_bad hc3 (.inr hc9) hc10)]; exact ⟨rfl, (S.sel [] rfl rfl)⟩
   try simp only [o1,o2,o3,o4,o5,o6,o7,o8,o9,oa] at hc10
   refine wp_skip ?_
   refine k35 _ _ ?_
   refine sS H fun K38 k38=>sf fo_125_1 rfl <| sl S 0 one_25 rfl rfl rfl <| sL sl_25 rfl <| sr 1 rfl <| sE ?_;clear H a;intro a H
   refine k38 _ ?_;clear k38 K38
   refine wp_block ?_
   replace S := S.recell (i := 1) rfl (cell' := fun k _ => .int .i64 (heldN ws k i + cntO (ws.getD i Wr.zero).of k 0)) (fun k j _ hj => congrArg (Value.int .i64) (Int.add_zero _).symm)
   refine loop_st (X := Nat) (R0 := _) [1, 4, 51, 52, 53, 100, 101] H rfl (fun q => [(102, .int .i64 (q : Int))]) (fun q => [ownM 3 1 AH ws.length ws.length (fun k _ => .int .i64 (heldN ws k i + cntO (ws.getD i Wr.zero).of k q))]) (fun g q => q ≤ (ws.getD i Wr.zero).of.length ∧ g + q = (ws.getD i Wr.zero).of.length) ((ws.getD i Wr.zero).of.length) 0 ?_ (S.sel [1, 0, 2, 3] rfl rfl) (H.keep [102, 1, 4, 51, 52, 53, 100, 101] rfl) ?_
   · exact ⟨by omega, by omega⟩
   clear H S a
   intro g3 x3 a w3 hp S H K39 k39
   obtain ⟨q, rfl⟩ : ∃ y, y = x3 := ⟨_, rfl⟩
   refine sS H fun K40 k40=>sr 1 rfl <| sE ?_;clear H a;intro a H
   refine k40 _ ?_;clear k40 K40
   refine wp_seq_k fun K41 k41 => ?_
   refine condL H rfl (fun hc11 => ?_) (fun hc11 => ?_)
   ·skip
    refine wp_skip ?_
    refine k41 _ _ ?_
    refine wp_seq_k fun K42 k42 => ?_
    refine wp_block ?_
    refine sS H fun K43 k43=>si sl_25 sz_3 rfl rfl ((hof i (by omega)).adr (by omega)) (by omega) <| slm one_3 rfl ((hof i (by omega)).rd S (by omega) (by omega)) <| sr 1 rfl <| sE ?_;clear H a;intro a H
    refine k43 _ ?_;clear k43 K43
    have hhb := held_bd (sw := sw) (ws := ws) ((ws.getD i Wr.zero).of.getD q 0).toNat i hwk
    have hcb := cntO_bd (l := (ws.getD i Wr.zero).of) (k := ((ws.getD i Wr.zero).of.getD q 0).toNat) q
    have hxb : (i : Int) + 1 ≤ (ws.getD i Wr.zero).of.getD q 0 ∧ (ws.getD i Wr.zero).of.getD q 0 < (ws.length : Int) := by first | exact asc_ge hc7.2 (k := q) (by omega) | exact asc_ge hc10.2 (k := q) (by omega)
    replace H := H.keep [1, 4, 8, 51, 52, 53, 100, 101, 102] rfl
    refine one_list ?_
    refine ls 6 H <| sr 2 rfl <| sI sl_25 sz_3 rfl rfl (ownM.adr S (i := 0) rfl (by omega)) (by omega) (by omega) <| slm one_3 rfl (ownM.rd S (i := 0) rfl (by omega) (by omega)) <| sd (does_add rfl rfl (by unfold i64ok; omega)) <| sI sl_25 sz_3 rfl rfl (ownM.adr S (i := 0) rfl (by omega)) (by omega) (by omega) <| sE ?_;clear H a;intro a H
    refine list_store_own H S (i := 0) rfl rfl rfl (by omega) (by omega) sz_3 rfl ?_
    clear H a S;intro _ a S H
    replace S := S.recell (i := 0) rfl (cell' := fun k _ => .int .i64 (heldN ws k i + cntO (ws.getD i Wr.zero).of k (q + 1))) (fun k j _ hj => held_put (by omega) hj)
    refine k42 _ _ ?_
    refine sO H <| sd (does_add rfl rfl (by unfold i64ok; omega)) <| sr 1 rfl <| sE ?_;clear H a;intro a H
    exact k39 (g3 - 1) (q + 1) a _ (by omega) (⟨by omega, by omega⟩) (S.sel [0, 1, 2, 3] rfl rfl) (H.keep [102, 1, 4, 51, 52, 53, 100, 101] rfl)
   refine wp_exit ?_
   refine k12 _ _ ?_
   replace S := S.recell (i := 0) rfl (cell' := fun k _ => .int .i64 (heldN ws k (i + 1))) (fun k j _ _ => congrArg (Value.int .i64) (by first | exact held_one hc3 | exact held_more hc3 (by omega)))
   replace H := H.keep [1, 4, 51, 52, 53] rfl
   refine sO H <| sd (does_add rfl rfl (by unfold i64ok; omega)) <| sr 1 rfl <| sE ?_;clear H a;intro a H
   exact k9 (g1 - 1) (i + 1) a _ (by omega) (⟨by omega, by omega, fun q hq => if h9 : q < i then hwk q h9 else by
         obtain rfl : q = i := by omega
         first | exact wr_one hc3 (by omega) hc4.2 | exact wr_more hc3 (.inl hc5) (by omega) hc7.2 | exact wr_more hc3 (.inr hc9) (by omega) hc10.2⟩) (S.sel [0, 2, 3] rfl rfl) (H.keep [53, 1, 4, 51, 52] rfl)
  refine sS H fun K47 k47=>sr 1 rfl <| sE ?_;clear H a;intro a H
  refine k47 _ ?_;clear k47 K47
  refine wp_ret ?_
  refine ret1 (fn := Try.f70) rfl H rfl ?_
  rw [cir_bad3 (by omega) (wr_none hc3 hc5 hc9)]; exact ⟨rfl, (S.sel [] rfl rfl)⟩
 refine wp_exit ?_
 refine k7 _ _ ?_
 refine wp_seq_k fun K48 k48 => ?_
 obtain rfl : i = ws.length := by omega
 replace H := H.keep [4] rfl
 refine seq_list fun K49 k49 => ?_
 refine ls 5 H <| sr 1 rfl <| sI sl_25 sz_3 rfl rfl (ownM.adr S (i := 0) rfl (by omega)) (by omega) (by omega) <| slm one_3 rfl (ownM.rd S (i := 0) rfl (by omega) (by omega)) <| sr 2 rfl <| sE ?_;clear H a;intro a H
 apply list_guard (i := 4) (g := 118) (t := 121) (b := false) 3 H S rfl rfl (by kernel_rfl) (by kernel_rfl) rfl rfl
 case h1 =>
  intro hg5
  refine ls 2 H <| sy hg5 <| sr 1 rfl <| sy hg5 <| sd (Does.to (does_slice sl_25 sz_3 rfl (lo := 1) (hi := ws.length) (.inr ⟨_, rfl, _, rfl⟩) (.inl ⟨rfl, rfl⟩) (by omega) (by omega)) (show _ = Value.slice (cutA AH ws.length 1 1) ((List.range (ws.length - 1)).map fun q => heldN ws (q + 1) ws.length).length (ws.length - 1) from by rw [heldL_len])) <| sE ?_;intro a H
  refine list_yes' H rfl rfl (by assumption) ?_
  refine list_call H rfl rfl Try.func81 rfl rfl (cir_CF4 ((List.range (ws.length - 1)).map fun q => heldN ws (q + 1) ws.length) (cutA AH ws.length 1 1) (ws.length - 1) _ (heldL_in (ownM.inS S (i := 0) rfl) (by omega)) (by rw [heldL_len]; omega)) ?_
  rintro _ _ a ⟨rfl, S2⟩ H
  replace S := S.call S2;clear S2
  exact wpList_nil ⟨H.strip 3 rfl rfl, (S.sel [0, 1, 2] rfl rfl)⟩
 clear H a S;intro a _ H S
 refine ls 1 H <| so rfl rfl rfl <| sE ?_;clear H a;intro a H
 refine k49 _ _ ?_;clear k49 K49
 refine cond_ H rfl (fun hc12 => ?_) (fun hc12 => ?_)
 ·skip
  try simp only [o1,o2,o3,o4,o5,o6,o7,o8,o9,oa] at hc12
  replace H := H.keep [] rfl
  refine sS H fun K50 k50=>sr 1 rfl <| sE ?_;clear H a;intro a H
  refine k50 _ ?_;clear k50 K50
  refine wp_ret ?_
  refine ret1 (fn := Try.f70) rfl H rfl ?_
  rw [show circE hz sw ws = 30 from hc12.elim cir_bad4 (fun h => cir_bad5 (by rw [← heldL_any]; exact h))]; exact ⟨rfl, (S.sel [] rfl rfl)⟩
 try simp only [o1,o2,o3,o4,o5,o6,o7,o8,o9,oa] at hc12
 refine wp_skip ?_
 refine k48 _ _ ?_
 refine sS H fun K51 k51=>sr 1 rfl <| sE ?_;clear H a;intro a H
 refine k51 _ ?_;clear k51 K51
 refine wp_ret ?_
 refine ret1 (fn := Try.f70) rfl H rfl ?_
 rw [cir_good hc1.1 hc1.2 hwk hc12.1 (by rw [← heldL_any]; exact hc12.2)]; exact ⟨rfl, (S.sel [] rfl rfl)⟩

end Go.Proofs.Ytdepakimbagonaa
