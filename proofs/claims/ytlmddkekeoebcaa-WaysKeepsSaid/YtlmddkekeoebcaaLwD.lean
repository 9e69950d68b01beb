/- LwD. Printed by gen.py. -/
import Derived.Test.YtlmddkekeoebcaaRwF
import Derived.Test.YtlmddkekeoebcaaRwE
import Derived.Test.YtlmddkekeoebcaaRwW
namespace Go.Proofs.Ytlmddkekeoebcaa
open Go.RowKit
set_option linter.unusedVariables false
set_option linter.unusedSimpArgs false
set_option maxRecDepth 100000
set_option maxHeartbeats 4000000


theorem go_on {is : Bool} {h kh i ki : Nat} (h1 : (is = true ∨ ¬ (h : Int) = (kh : Int)) ∨ ¬ (i : Int) = (ki : Int)) (h2 : is = false) (h3 : h = kh) : i ≠ ki := by
  rcases h1 with (h4 | h4) | h4
  · rw [h2] at h4; cases h4
  · omega
  · omega
theorem way_brk {P : Nat} {ps : List Psg} {xs : List Int} {out : Int} {help : Bool} {fr to : Int} (hst : stE P ps xs = 0) (ho : 0 ≤ out ∧ out ≤ 4095) (hfr : 0 ≤ fr ∧ fr ≤ (P : Int) - 1) (hto : 0 ≤ to ∧ to ≤ (P : Int) - 1) :
    (wayV P ps xs out help fr to).2.2 = if dst P ps out help to.toNat fr.toNat < 0 then 3 else 0 := by
  have ha : askE P ps xs out [fr, to] = 0 := by
    have := askE_of (out := out) (fr := fr.toNat) (to := to.toNat) hst ho (by omega) (by omega)
    rw [Int.toNat_of_nonneg hfr.1, Int.toNat_of_nonneg hto.1] at this
    exact this
  unfold wayV
  rw [if_neg (by omega), Int.toNat_natCast]
  split <;> rfl
theorem broken_in {P : Nat} {ps : List Psg} {h : Hq} {n : Nat} {p : Prm} (h1 : p.first ≤ (n : Int) ∧ (n : Int) ≤ p.last) : broken P ps h n p = decide (dst P ps h.out (h.help && p.helped) p.to.toNat p.fr.toNat < 0) := by
  unfold broken; rw [decide_eq_true h1.1, decide_eq_true h1.2]; rfl
theorem kept_ex {P : Nat} {ps : List Psg} {xs : List Int} {day : List Hq} {l : List Prm} (he : keptE P ps xs day l = 0) : ∃ kh ki : Nat, ∃ is : Bool, keptV P ps xs day l = ((kh : Int), (ki : Int), is, 0) ∧
    (is = true → kh = 0 ∧ ki = 0 ∧ ∀ q, q < day.length → ∀ j, j < l.length → broken P ps (day.getD q Hq.zero) q (l.getD j Prm.zero) = false) ∧
    (is = false → kh < day.length ∧ ki < l.length ∧ broken P ps (day.getD kh Hq.zero) kh (l.getD ki Prm.zero) = true ∧ (∀ q, q < kh → ∀ j, j < l.length → broken P ps (day.getD q Hq.zero) q (l.getD j Prm.zero) = false) ∧ ∀ j, j < ki → broken P ps (day.getD kh Hq.zero) kh (l.getD j Prm.zero) = false) := by
  have fl : ∀ (f : Nat → Bool) (n : Nat), (fstB f n < n → f (fstB f n) = true) ∧ ∀ q, q < fstB f n → f q = false := by
    intro f n
    by_cases h : ∃ q, q < n ∧ f q = true
    · have hm : ∃ q, (q < n ∧ f q = true) ∧ ∀ r, r < q → f r = false := by
        obtain ⟨q, hq, hf⟩ := h
        induction q using Nat.strongRecOn with
        | _ q ih =>
          by_cases hx : ∃ r, r < q ∧ f r = true
          · obtain ⟨r, hr, hfr⟩ := hx; exact ih r hr (by omega) hfr
          · refine ⟨q, ⟨hq, hf⟩, fun r hr => ?_⟩
            cases hb : f r with
            | false => rfl
            | true => exact absurd ⟨r, hr, hb⟩ hx
      obtain ⟨q, ⟨hq, hf⟩, hr⟩ := hm
      have e := fst_at hr hf hq
      rw [e]
      exact ⟨fun _ => hf, hr⟩
    · have hno : ∀ q, q < n → f q = false := fun q hq => by
        cases hb : f q with
        | false => rfl
        | true => exact absurd ⟨q, hq, hb⟩ h
      rw [fst_none hno]
      exact ⟨fun h => absurd h (Nat.lt_irrefl n), hno⟩
  have h1 := fl (fun h => decide (brokeAt P ps day l h < l.length)) day.length
  have row : ∀ q, decide (brokeAt P ps day l q < l.length) = false → ∀ j, j < l.length → broken P ps (day.getD q Hq.zero) q (l.getD j Prm.zero) = false := fun q hq j hj => by
    have h2 := of_decide_eq_false hq
    exact (fl (fun i => broken P ps (day.getD q Hq.zero) q (l.getD i Prm.zero)) l.length).2 j (by unfold brokeAt at h2; omega)
  by_cases hb : brokeH P ps day l < day.length
  · have h2 := of_decide_eq_true (h1.1 hb)
    have h3 := fl (fun i => broken P ps (day.getD (brokeH P ps day l) Hq.zero) (brokeH P ps day l) (l.getD i Prm.zero)) l.length
    refine ⟨brokeH P ps day l, brokeAt P ps day l (brokeH P ps day l), false, ?_, (fun h => by cases h), fun _ => ⟨hb, h2, h3.1 h2, fun q hq => row q (h1.2 q hq), h3.2⟩⟩
    unfold keptV
    rw [if_neg (by omega), Int.toNat_natCast, if_pos hb]
  · refine ⟨0, 0, true, ?_, fun _ => ⟨rfl, rfl, fun q hq => row q (h1.2 q (by unfold brokeH at hb; omega))⟩, (fun h => by cases h)⟩
    unfold keptV
    rw [if_neg (by omega), Int.toNat_natCast, if_neg hb]
    rfl


theorem lawq_WaysPromises (pl : Int) (ps : List Psg) (PA : Option Addr) (pc : Nat) (xs : List Int) (XA : Option Addr) (xc : Nat) (day : List Hq) (HA : Option Addr) (hcp : Nat) (DA : Nat → Option Addr) (dc : Nat → Nat) (l : List Prm) (LA : Option Addr) (lc : Nat) (w : World) (hps : InS w noF 7 PA ps.length (pcell ps)) (hpn8 : 56 * ps.length ≤ 140737488355328) (hxs : InS w noF 1 XA xs.length (icl xs)) (hxn8 : 8 * xs.length ≤ 140737488355328) (hday : InS w noF 3 HA day.length (hcl day DA dc)) (hd8 : 40 * day.length ≤ 140737488355328) (hdp : ∀ k, k < day.length → InS w noF 1 (DA k) (day.getD k Hq.zero).pe.length (icl (day.getD k Hq.zero).pe)) (hdl8 : ∀ k, k < day.length → 8 * (day.getD k Hq.zero).pe.length ≤ 140737488355328) (hl : InS w noF 5 LA l.length (prcell l)) (hl8 : 40 * l.length ≤ 140737488355328) :
    Calls Try.prog 10 [.agg [.int .i64 pl, .slice PA ps.length pc, .slice XA xs.length xc].toArray, .slice HA day.length hcp, .slice LA l.length lc].toArray w (Ret (fun u w' => u = .bool true ∧ St w noF [] w')) := by
 have hpn : ps.length ≤ 9223372036854775807 := by omega
 have hxn : xs.length ≤ 9223372036854775807 := by omega
 have hdn : day.length ≤ 9223372036854775807 := by omega
 have hln : l.length ≤ 9223372036854775807 := by omega
 have hdl : ∀ k, k < day.length → (day.getD k Hq.zero).pe.length ≤ 9223372036854775807 := fun k hk => by have := hdl8 k hk; omega
 refine enter Try.func10 rfl Try.ntmps10 rfl (fun a H => ?_)
 have S := St.start w
 refine seq_list fun K1 k1 => ?_
 refine list_box H rfl S rfl rfl ?_;clear H a S;intro b3 _ a hb3 hbw3 S H
 refine ls 1 H <| sr 1 rfl <| sE ?_;clear H a;intro a H
 refine k1 _ _ ?_;clear k1 K1
 refine wp_seq_k fun K2 k2 => ?_
 replace H := H.keep [1, 2, 3] rfl
 refine sS H fun K3 k3=>sf fo_25_1 rfl <| sl S 0 one_22 rfl rfl rfl <| sL sl_22 rfl <| sr 2 rfl <| sg 3 4 19 22 false rfl rfl (fun hg5 => sy hg5 <| sr 1 rfl <| sy hg5 <| sL sl_65 rfl <| sy hg5 <| sr 1 rfl <| sz 3 rfl rfl rfl) <| so rfl rfl rfl <| sr 1 rfl <| sg 3 9 24 27 false rfl rfl (fun hg10 => sy hg10 <| sr 1 rfl <| sy hg10 <| sL sl_66 rfl <| sy hg10 <| sr 1 rfl <| sz 3 rfl rfl rfl) <| so rfl rfl rfl <| sE ?_;clear H a;intro a H
 refine k3 _ ?_;clear k3 K3
 refine cond_ H rfl (fun hc1 => ?_) (fun hc1 => ?_)
 ·skip
  try simp only [o1,o2,o3,o4,o5,o6,o7,o8,o9,oa] at hc1
  replace H := H.keep [] rfl
  refine seq_list fun K4 k4 => ?_
  refine list_call H rfl rfl Try.func15 rfl rfl (law_works _) ?_;clear H a
  rintro _ _ a ⟨rfl, S2⟩ H
  replace S := S.call S2;clear S2
  refine ls 1 H <| sr 1 rfl <| sE ?_;clear H a;intro a H
  refine k4 _ _ ?_;clear k4 K4
  refine wp_ret ?_
  refine ret1 (fn := Try.f10) rfl H rfl ?_
  exact ⟨rfl, (S.sel [] rfl rfl)⟩
 try simp only [o1,o2,o3,o4,o5,o6,o7,o8,o9,oa] at hc1
 refine wp_skip ?_
 refine k2 _ _ ?_
 replace H := H.keep [1, 2, 3] rfl
 refine seq_list fun K5 k5 => ?_
 refine ls 1 H <| sd ((does_loadBox agg_25 sz_25 rfl S (i := 0) rfl rfl)) <| sE ?_;clear H a;intro a H
 refine list_call H rfl rfl Try.func17 rfl rfl (ref_Copy pl ps PA pc xs XA xc _ (hps.now S) hpn (hxs.now S) hxn hpn8 hxn8) ?_;clear H a
 rintro _ _ a ⟨A5, c5, B5, d5, rfl, S2⟩ H
 replace S := S.call S2;clear S2
 refine ls 1 H <| sr 1 rfl <| sE ?_;clear H a;intro a H
 refine list_call H rfl rfl Try.func41 rfl rfl (ref_CopyDay day HA hcp DA dc _ (hday.now S) hdn (fun k hk => (hdp k hk).now S) hdl (by omega) hdl8) ?_;clear H a
 rintro _ _ a ⟨A7, c7, DA7, dc7, rfl, S2⟩ H
 replace S := S.call S2;clear S2
 refine list_build0 H rfl S sl_66 sz_72 (prcell l) ?_;clear H a S;intro A1 _ a S H
 refine ls 1 H <| sr 1 rfl <| sE ?_;clear H a;intro a H
 refine list_append H rfl S sl_66 sz_72 ze_72 by_72 rfl rfl (i := 0) rfl rfl rfl ((hl.now S)) (prcell_one l) (by omega) (by omega) ?_;clear H a S;intro A2 c2 _ a S H
 rw [Nat.zero_add] at H
 replace S := S.recell (i := 0) (n := l.length) (cell' := prcell l) (by simp only [Nat.zero_add]; rfl) (fun k j hk hj => by unfold capp; rw [if_neg (by omega)]; rfl)
 refine list_call H rfl rfl Try.func40 rfl rfl (ways_Kept pl ps A5 c5 xs B5 d5 day A7 c7 DA7 dc7 l _ _ _ (ownM.inS S (i := 3) rfl) hpn (ownM.inS S (i := 4) rfl) hxn (ownM.inS S (i := 2) rfl) hdn (fun k hk => ragM.inS S (i := 1) rfl hk) hdl (ownM.inS S (i := 0) rfl) hln) ?_;clear H a
 rintro _ _ a ⟨rfl, S2⟩ H
 replace S := S.call S2;clear S2
 refine ls 9 H <| sr 9 rfl <| sE ?_;clear H a;intro a H
 refine k5 _ _ ?_;clear k5 K5
 replace H := H.keep [1, 2, 3, 7, 8, 9, 10] rfl
 refine seq_list fun K6 k6 => ?_
 refine ls 3 H <| sd ((does_loadBox agg_25 sz_25 rfl S (i := 5) rfl rfl)) <| sr 2 rfl <| sE ?_;clear H a;intro a H
 refine list_call H rfl rfl Try.func42 rfl rfl (ref_Kept pl ps PA pc xs XA xc day HA hcp DA dc l LA lc _ (hps.now S) hpn (hxs.now S) hxn (hday.now S) hdn (fun k hk => (hdp k hk).now S) hdl (hl.now S) hln) ?_;clear H a
 rintro _ _ a ⟨rfl, S2⟩ H
 replace S := S.call S2;clear S2
 refine ls 9 H <| sr 9 rfl <| sE ?_;clear H a;intro a H
 refine k6 _ _ ?_;clear k6 K6
 replace H := H.keep [7, 8, 9, 10, 11, 12, 13, 14] rfl
 refine seq_list fun K7 k7 => ?_
 refine ls 19 H <| sr 2 rfl <| sd (does_eq_t rfl rfl rfl) <| sr 1 rfl <| sy rfl <| sr 1 rfl <| sy rfl <| sr 1 rfl <| sy rfl <| sd (does_eq_t rfl rfl rfl) <| sa rfl rfl rfl <| sr 1 rfl <| sy rfl <| sr 1 rfl <| sy rfl <| sr 1 rfl <| sy rfl <| sd (does_eqb_t Try.underlying4 rfl rfl rfl) <| sa rfl rfl rfl <| sr 1 rfl <| sy rfl <| sr 1 rfl <| sy rfl <| sr 1 rfl <| sy rfl <| sd (does_eq_t rfl rfl rfl) <| sa rfl rfl rfl <| sr 1 rfl <| sE ?_;clear H a;intro a H
 refine list_yes H rfl rfl ?_
 refine list_call H rfl rfl Try.func15 rfl rfl (law_works _) ?_;clear H a
 rintro _ _ a ⟨rfl, S2⟩ H
 replace S := S.call S2;clear S2
 refine ls 2 H <| sa rfl rfl rfl <| sr 1 rfl <| sE ?_;clear H a;intro a H
 refine k7 _ _ ?_;clear k7 K7
 refine wp_ret ?_
 refine ret1 (fn := Try.f10) rfl H rfl ?_
 exact ⟨rfl, (S.sel [] rfl rfl)⟩

theorem law_WaysPromises {B : Nat} (pl : Int) (ps : List Psg) (PA : Option Addr) (pc : Nat) (xs : List Int) (XA : Option Addr) (xc : Nat) (dl : List Hr) (HA : Option Addr) (hcp : Nat) (l : List Prm) (LA : Option Addr) (lc : Nat) (w : World) (hps : InS w noF 7 PA ps.length (pcell ps)) (hpn8 : 56 * ps.length ≤ 140737488355328) (hxs : InS w noF 1 XA xs.length (icl xs)) (hxn8 : 8 * xs.length ≤ 140737488355328) (hdl0 : InS w noF 3 HA dl.length (hrcell dl)) (hd8 : 40 * dl.length ≤ 140737488355328) (hdd : ∀ k, k < dl.length → InS w noF 1 (dl.getD k Hr.zero).A (dl.getD k Hr.zero).pe.length (icl (dl.getD k Hr.zero).pe) ∧ (dl.getD k Hr.zero).pe.length * 8 ≤ 140737488351232 ∧ (dl.getD k Hr.zero).pe.length ≤ B) (hl : InS w noF 5 LA l.length (prcell l)) (hl8 : 40 * l.length ≤ 140737488355328) :
    Calls Try.prog 10 [.agg [.int .i64 pl, .slice PA ps.length pc, .slice XA xs.length xc].toArray, .slice HA dl.length hcp, .slice LA l.length lc].toArray w (Ret fun u w' => u = .bool true ∧ St w noF [] w') := by
  have h := lawq_WaysPromises pl ps PA pc xs XA xc (dl.map Hr.q) HA hcp (fun k => (dl.getD k Hr.zero).A) (fun k => (dl.getD k Hr.zero).c) l LA lc w hps hpn8 hxs hxn8 (by rw [List.length_map, ← hrcell_hcl]; exact hdl0) (by rw [List.length_map]; exact hd8) (fun k hk => by rw [List.length_map] at hk; rw [hr_q]; exact (hdd k hk).1) (fun k hk => by rw [List.length_map] at hk; rw [hr_q]; have := (hdd k hk).2.1; show 8 * (dl.getD k Hr.zero).pe.length ≤ _; omega) hl hl8
  rw [List.length_map] at h
  exact h


theorem lawq_WaysKeeps (pl : Int) (ps : List Psg) (PA : Option Addr) (pc : Nat) (xs : List Int) (XA : Option Addr) (xc : Nat) (day : List Hq) (HA : Option Addr) (hcp : Nat) (DA : Nat → Option Addr) (dc : Nat → Nat) (l : List Prm) (LA : Option Addr) (lc : Nat) (w : World) (hps : InS w noF 7 PA ps.length (pcell ps)) (hpn8 : 56 * ps.length ≤ 140737488355328) (hxs : InS w noF 1 XA xs.length (icl xs)) (hxn8 : 8 * xs.length ≤ 140737488355328) (hday : InS w noF 3 HA day.length (hcl day DA dc)) (hd8 : 40 * day.length ≤ 140737488355328) (hdp : ∀ k, k < day.length → InS w noF 1 (DA k) (day.getD k Hq.zero).pe.length (icl (day.getD k Hq.zero).pe)) (hdl8 : ∀ k, k < day.length → 8 * (day.getD k Hq.zero).pe.length ≤ 140737488355328) (hl : InS w noF 5 LA l.length (prcell l)) (hl8 : 40 * l.length ≤ 140737488355328) :
    Calls Try.prog 11 [.agg [.int .i64 pl, .slice PA ps.length pc, .slice XA xs.length xc].toArray, .slice HA day.length hcp, .slice LA l.length lc].toArray w (Ret (fun u w' => u = .bool true ∧ St w noF [] w')) := by
 have hpn : ps.length ≤ 9223372036854775807 := by omega
 have hxn : xs.length ≤ 9223372036854775807 := by omega
 have hdn : day.length ≤ 9223372036854775807 := by omega
 have hln : l.length ≤ 9223372036854775807 := by omega
 have hdl : ∀ k, k < day.length → (day.getD k Hq.zero).pe.length ≤ 9223372036854775807 := fun k hk => by have := hdl8 k hk; omega
 refine enter Try.func11 rfl Try.ntmps11 rfl (fun a H => ?_)
 have S := St.start w
 refine seq_list fun K1 k1 => ?_
 refine list_box H rfl S rfl rfl ?_;clear H a S;intro b3 _ a hb3 hbw3 S H
 refine ls 1 H <| sr 1 rfl <| sE ?_;clear H a;intro a H
 refine k1 _ _ ?_;clear k1 K1
 refine wp_seq_k fun K2 k2 => ?_
 refine seq_list fun K3 k3 => ?_
 refine ls 3 H <| sd ((does_loadBox agg_25 sz_25 rfl S (i := 0) rfl rfl)) <| sr 2 rfl <| sE ?_;clear H a;intro a H
 refine list_call H rfl rfl Try.func43 rfl rfl (ref_CheckPromises pl ps PA pc xs XA xc day HA hcp DA dc l LA lc _ (hps.now S) hpn (hxs.now S) hxn (hday.now S) hdn (fun k hk => (hdp k hk).now S) hdl (hl.now S) hln) ?_;clear H a
 rintro _ _ a ⟨rfl, S2⟩ H
 replace S := S.call S2;clear S2
 refine ls 1 H <| sr 1 rfl <| sE ?_;clear H a;intro a H
 refine k3 _ _ ?_;clear k3 K3
 refine condN H rfl (fun hc1 => ?_) (fun hc1 => ?_)
 ·skip
  refine seq_list fun K4 k4 => ?_
  refine list_call H rfl rfl Try.func15 rfl rfl (law_works _) ?_;clear H a
  rintro _ _ a ⟨rfl, S2⟩ H
  replace S := S.call S2;clear S2
  refine ls 1 H <| sr 1 rfl <| sE ?_;clear H a;intro a H
  refine k4 _ _ ?_;clear k4 K4
  refine wp_ret ?_
  refine ret1 (fn := Try.f11) rfl H rfl ?_
  exact ⟨rfl, (S.sel [] rfl rfl)⟩
 have hkE : keptE pl ps xs day l = 0 := by omega
 obtain ⟨hdE, hl40, hpr⟩ := keptE_ok hkE
 obtain ⟨hst, hdk⟩ := dayE_ok hdE
 have hdk := dayOk_ok hdk
 have hV0 := st_valid hst
 obtain ⟨P, rfl⟩ : ∃ P : Nat, pl = P := ⟨pl.toNat, by have := hV0.size; omega⟩
 have hV := hV0
 have hP10 := hV.size
 obtain ⟨kh, ki, is, hkv, hkt, hkf⟩ := kept_ex hkE
 refine wp_skip ?_
 refine k2 _ _ ?_
 replace H := H.keep [1, 2, 3] rfl
 refine seq_list fun K5 k5 => ?_
 refine ls 3 H <| sd ((does_loadBox agg_25 sz_25 rfl S (i := 0) rfl rfl)) <| sr 2 rfl <| sE ?_;clear H a;intro a H
 refine list_call H rfl rfl Try.func40 rfl rfl (ways_Kept P ps PA pc xs XA xc day HA hcp DA dc l LA lc _ (hps.now S) hpn (hxs.now S) hxn (hday.now S) hdn (fun k hk => (hdp k hk).now S) hdl (hl.now S) hln) ?_;clear H a
 rintro _ _ a ⟨rfl, S2⟩ H
 replace S := S.call S2;clear S2
 rw [hkv] at H
 refine ls 9 H <| sr 9 rfl <| sE ?_;clear H a;intro a H
 refine k5 _ _ ?_;clear k5 K5
 refine wp_seq_k fun K6 k6 => ?_
 replace H := H.keep [1, 2, 3, 7, 8, 9, 10] rfl
 refine sS H fun K7 k7=>sr 3 rfl <| sg 9 2 34 43 false rfl rfl (fun hg3 => by
     have hq3 := hg3;try simp only [o1,o2,o3,o4,o5,o6,o7,o8,o9,oa] at hq3
     exact sy hg3 <| sr 1 rfl <| sy hg3 <| sr 1 rfl <| sg 6 4 36 42 true rfl rfl (fun hg5 => by
          have hq5 := hg5;try simp only [o1,o2,o3,o4,o5,o6,o7,o8,o9,oa] at hq5
          exact sy hg5 <| sr 1 rfl <| sy hg5 <| sr 1 rfl <| sy hg5 <| sr 1 rfl <| sg 2 7 39 41 false rfl rfl (fun hg8 => by
               have hq8 := hg8;try simp only [o1,o2,o3,o4,o5,o6,o7,o8,o9,oa] at hq8
               exact sy hg8 <| sr 1 rfl <| sy hg8 <| sr 1 rfl <| sz 2 rfl rfl rfl) <| sy hg5 <| so rfl rfl rfl <| sz 5 rfl rfl rfl) <| sy hg3 <| sa rfl rfl rfl <| sz 4 rfl rfl rfl) <| so rfl rfl rfl <| sr 1 rfl <| sg 22 13 45 67 false rfl rfl (fun hg14 => by
     have hq14 := hg14;try simp only [o1,o2,o3,o4,o5,o6,o7,o8,o9,oa] at hq14
     exact sy hg14 <| sr 1 rfl <| sy hg14 <| sr 1 rfl <| sy hg14 <| sr 1 rfl <| sg 18 16 48 66 true rfl rfl (fun hg17 => by
          have hq17 := hg17;try simp only [o1,o2,o3,o4,o5,o6,o7,o8,o9,oa] at hq17
          exact sy hg17 <| sr 1 rfl <| sy hg17 <| sr 1 rfl <| sy hg17 <| sr 1 rfl <| sg 4 19 51 55 false rfl rfl (fun hg20 => by
               have hq20 := hg20;try simp only [o1,o2,o3,o4,o5,o6,o7,o8,o9,oa] at hq20
               exact sy hg20 <| sr 1 rfl <| sy hg20 <| sr 1 rfl <| sy hg20 <| sL sl_65 rfl <| sy hg20 <| sr 1 rfl <| sz 4 rfl rfl rfl) <| sy hg17 <| so rfl rfl rfl <| sy hg17 <| sr 1 rfl <| sg 2 25 57 59 false rfl rfl (fun hg26 => by
               have hq26 := hg26;try simp only [o1,o2,o3,o4,o5,o6,o7,o8,o9,oa] at hq26
               exact sy hg26 <| sr 1 rfl <| sy hg26 <| sr 1 rfl <| sz 2 rfl rfl rfl) <| sy hg17 <| so rfl rfl rfl <| sy hg17 <| sr 1 rfl <| sg 4 29 61 65 false rfl rfl (fun hg30 => by
               have hq30 := hg30;try simp only [o1,o2,o3,o4,o5,o6,o7,o8,o9,oa] at hq30
               exact sy hg30 <| sr 1 rfl <| sy hg30 <| sr 1 rfl <| sy hg30 <| sL sl_66 rfl <| sy hg30 <| sr 1 rfl <| sz 4 rfl rfl rfl) <| sy hg17 <| so rfl rfl rfl <| sz 11 rfl rfl rfl) <| sy hg14 <| sa rfl rfl rfl <| sz 5 rfl rfl rfl) <| so rfl rfl rfl <| sE ?_;clear H a;intro a H
 refine k7 _ ?_;clear k7 K7
 refine cond_ H rfl (fun hc2 => ?_) (fun hc2 => ?_)
 ·skip
  try simp only [o1,o2,o3,o4,o5,o6,o7,o8,o9,oa] at hc2
  exfalso
  cases his : is with
  | true =>
    have h9 := hkt his
    rw [his] at hc2
    simp at hc2
    omega
  | false =>
    have h9 := hkf his
    rw [his] at hc2
    simp at hc2
    omega
 try simp only [o1,o2,o3,o4,o5,o6,o7,o8,o9,oa] at hc2
 refine wp_skip ?_
 refine k6 _ _ ?_
 refine wp_seq_k fun K8 k8 => ?_
 replace H := H.keep [1, 2, 3, 7, 8, 9] rfl
 refine sS H fun K9 k9=>sr 1 rfl <| sE ?_;clear H a;intro a H
 refine k9 _ ?_;clear k9 K9
 refine wp_block ?_
 refine loop_st (X := Nat) (R0 := _) [1, 2, 3, 7, 8, 9] H rfl (fun h => [(11, .int .i64 (h : Int))]) (fun h => []) (fun g h => h ≤ day.length ∧ g + h = day.length ∧ (is = false → h ≤ kh)) (day.length) 0 ?_ (S.sel [0] rfl rfl) (H.keep [11, 1, 2, 3, 7, 8, 9] rfl) ?_
 · exact ⟨by omega, by omega, fun _ => Nat.zero_le _⟩
 clear H S a
 intro g1 x1 a w1 hp S H K10 k10
 obtain ⟨h, rfl⟩ : ∃ y, y = x1 := ⟨_, rfl⟩
 obtain ⟨hhl, hgh, hch⟩ := hp
 refine wp_seq_k fun K11 k11 => ?_
 refine sS H fun K12 k12=>sr 2 rfl <| sL sl_65 rfl <| sr 1 rfl <| sE ?_;clear H a;intro a H
 refine k12 _ ?_;clear k12 K12
 refine condL H rfl (fun hc3 => ?_) (fun hc3 => ?_)
 ·skip
  refine wp_skip ?_
  refine k11 _ _ ?_
  refine wp_seq_k fun K13 k13 => ?_
  refine wp_block ?_
  refine sS H fun K14 k14=>sr 1 rfl <| sE ?_;clear H a;intro a H
  refine k14 _ ?_;clear k14 K14
  refine wp_block ?_
  refine loop_st (X := Nat) (R0 := _) [1, 2, 3, 7, 8, 9, 11] H rfl (fun i => [(12, .int .i64 (i : Int))]) (fun i => []) (fun g i => i ≤ l.length ∧ g + i = l.length ∧ (is = false → h = kh → i ≤ ki)) (l.length) 0 ?_ (S.sel [0] rfl rfl) (H.keep [12, 1, 2, 3, 7, 8, 9, 11] rfl) ?_
  · exact ⟨by omega, by omega, fun _ _ => Nat.zero_le _⟩
  clear H S a
  intro g2 x2 a w2 hp S H K15 k15
  obtain ⟨i, rfl⟩ : ∃ y, y = x2 := ⟨_, rfl⟩
  obtain ⟨hil, hgi, hci⟩ := hp
  refine wp_seq_k fun K16 k16 => ?_
  refine sS H fun K17 k17=>sr 2 rfl <| sL sl_66 rfl <| sr 1 rfl <| sE ?_;clear H a;intro a H
  refine k17 _ ?_;clear k17 K17
  refine condL H rfl (fun hc4 => ?_) (fun hc4 => ?_)
  ·skip
   refine wp_skip ?_
   refine k16 _ _ ?_
   refine wp_seq_k fun K18 k18 => ?_
   refine wp_block ?_
   replace H := H.keep [1, 2, 3, 7, 8, 9, 11, 12] rfl
   refine seq_list fun K19 k19 => ?_
   refine ls 4 H <| sr 2 rfl <| si sl_66 sz_72 rfl rfl (hl.adr (by omega)) (by omega) <| sd ((does_loadIn agg_72 sz_72 rfl S hl (by omega) (by omega))) <| sE ?_;clear H a;intro a H
   refine list_alloc H rfl S ze_72 ?_;clear H a S;intro b13 _ a hb13 hbw13 S H
   refine list_store H S (i := 0) rfl rfl rfl rfl sz_72 rfl rfl ?_
   clear H a S;intro _ a S H
   refine k19 _ _ ?_;clear k19 K19
   refine wp_seq_k fun K20 k20 => ?_
   replace H := H.keep [1, 2, 3, 7, 8, 9, 11, 12, 13] rfl
   refine sS H fun K21 k21=>sr 1 rfl <| sf fo_72_2 rfl <| sl S 0 one_3 rfl rfl rfl <| sr 2 rfl <| sg 4 4 89 93 false rfl rfl (fun hg5 => by
       have hq5 := hg5;try simp only [o1,o2,o3,o4,o5,o6,o7,o8,o9,oa] at hq5
       exact sy hg5 <| sr 1 rfl <| sy hg5 <| sf fo_72_3 rfl <| sy hg5 <| sl S 0 one_3 rfl rfl rfl <| sy hg5 <| sr 1 rfl <| sz 4 rfl rfl rfl) <| so rfl rfl rfl <| sE ?_;clear H a;intro a H
   refine k21 _ ?_;clear k21 K21
   refine cond_ H rfl (fun hc5 => ?_) (fun hc5 => ?_)
   ·skip
    try simp only [o1,o2,o3,o4,o5,o6,o7,o8,o9,oa] at hc5
    refine wp_seq_k fun K22 k22 => ?_
    replace H := H.keep [1, 2, 3, 7, 8, 9, 11, 12] rfl
    refine sS H fun K23 k23=>sr 3 rfl <| sg 3 2 97 100 true rfl rfl (fun hg3 => by
        have hq3 := hg3;try simp only [o1,o2,o3,o4,o5,o6,o7,o8,o9,oa] at hq3
        exact sy hg3 <| sr 1 rfl <| sy hg3 <| sr 1 rfl <| sy hg3 <| sr 1 rfl <| sz 3 rfl rfl rfl) <| sa rfl rfl rfl <| sr 1 rfl <| sg 3 7 102 105 true rfl rfl (fun hg8 => by
        have hq8 := hg8;try simp only [o1,o2,o3,o4,o5,o6,o7,o8,o9,oa] at hq8
        exact sy hg8 <| sr 1 rfl <| sy hg8 <| sr 1 rfl <| sy hg8 <| sr 1 rfl <| sz 3 rfl rfl rfl) <| sa rfl rfl rfl <| sE ?_;clear H a;intro a H
    refine k23 _ ?_;clear k23 K23
    refine cond_ H rfl (fun hc6 => ?_) (fun hc6 => ?_)
    ·skip
     try simp only [o1,o2,o3,o4,o5,o6,o7,o8,o9,oa] at hc6
     exfalso
     obtain ⟨⟨hi1, hi2⟩, hi3⟩ := hc6
     obtain rfl : h = kh := by omega
     obtain rfl : i = ki := by omega
     have hb9 := (hkf hi1).2.2.1
     rw [broken_f1 (by omega)] at hb9
     cases hb9
    try simp only [o1,o2,o3,o4,o5,o6,o7,o8,o9,oa] at hc6
    have hgo := hc6
    refine wp_skip ?_
    refine k22 _ _ ?_
    refine wp_exit ?_
    refine k18 _ _ ?_
    replace H := H.keep [1, 2, 3, 7, 8, 9, 11, 12] rfl
    refine sO H <| sr 1 rfl <| sd (does_add rfl rfl (by unfold i64ok; omega)) <| sr 1 rfl <| sE ?_;clear H a;intro a H
    exact k15 (g2 - 1) (i + 1) a _ (by omega) (⟨by omega, by omega, fun h9 h8 => by have h7 := hci h9 h8; have h6 := go_on hgo h9 h8; omega⟩) (S.sel [1] rfl rfl) (H.keep [12, 1, 2, 3, 7, 8, 9, 11] rfl)
   try simp only [o1,o2,o3,o4,o5,o6,o7,o8,o9,oa] at hc5
   refine wp_skip ?_
   refine k20 _ _ ?_
   cases hB : (day.getD h Hq.zero).help
   ·skip
    have hin : (l.getD i Prm.zero).first ≤ (h : Int) ∧ (h : Int) ≤ (l.getD i Prm.zero).last := by omega
    have hpi := prmOk_iff.1 (hpr i (by omega))
    have hwv := way_brk (out := (day.getD h Hq.zero).out) (help := false) (fr := (l.getD i Prm.zero).fr) (to := (l.getD i Prm.zero).to) hst (hdk.2 h (by omega)).1 (by omega) (by omega)
    have hbk := broken_in (P := P) (ps := ps) (h := (day.getD h Hq.zero)) (n := h) (p := (l.getD i Prm.zero)) hin
    rw [hB, Bool.false_and] at hbk
    replace H := H.keep [1, 2, 3, 7, 8, 9, 11, 12, 13] rfl
    replace S := S.drew
    refine seq_wq [(0, true), (1, true), (2, true), (3, true), (4, true), (5, true), (6, true), (7, true), (8, true), (9, true), (10, true), (11, true), (12, true), (13, true), (14, true), (15, true), (16, true), (17, true), (18, true), (19, false), (20, true), (21, true), (22, true), (23, true), (24, true), (25, true), (26, true)] (by kernel_rfl) (by kernel_rfl) (S.sel [0, 1] rfl rfl) fun K25 k25 => ?_
    refine qF H <| qd rfl (fun _ S => (does_loadBox agg_25 sz_25 rfl S (i := 1) rfl rfl)) <| qr 2 rfl <| qd rfl (fun _ S => does_indexN sl_65 sz_74 rfl rfl (hday.adr (by omega)) (by omega)) <| qd rfl (fun _ S => (does_field_pt fo_74_0 rfl)) <| qd rfl (fun _ S => does_load one_3 rfl (hday.rd S (by omega) (by omega))) <| qr 2 rfl <| qd rfl (fun _ S => does_indexN sl_65 sz_74 rfl rfl (hday.adr (by omega)) (by omega)) <| qd rfl (fun _ S => (does_field_pt fo_74_1 rfl)) <| qd rfl (fun _ S => (does_load one_4 rfl (hday.rd S (k := h) (j := 1) (by omega) (by omega))).to (congrArg Value.bool hB)) <| qr 1 rfl <| qK ?_;clear H a;intro a H
    refine wq_no H rfl rfl rfl rfl rfl ?_;clear H a;intro a H
    refine wq_no H rfl rfl rfl rfl rfl ?_;clear H a;intro a H
    refine qF H <| qd rfl (fun _ S => (does_pick rfl rfl rfl)) <| qd rfl (fun _ S => (does_field fo_72_0 rfl)) <| qd rfl (fun _ S => does_load one_3 rfl (boxM.rd S (i := 0) rfl rfl)) <| qd rfl (fun _ S => (does_field fo_72_1 rfl)) <| qd rfl (fun _ S => does_load one_3 rfl (boxM.rd S (i := 0) rfl rfl)) <| qK ?_;clear H a;intro a H
    refine wq_eff rfl ?_
    refine list_call H rfl rfl Try.func21 rfl rfl (ret_imp (ways_Way P ps PA pc xs XA xc (day.getD h Hq.zero).out false (l.getD i Prm.zero).fr (l.getD i Prm.zero).to _ (hps.now S) hpn (hxs.now S) hxn) (fun u w' h => way_form h)) ?_;clear H a
    rintro _ _ a ⟨A8, c8, rfl, _, S2⟩ H
    replace S := S.call S2;clear S2
    refine wpList_nil (And.intro (S.sel [1, 2] rfl rfl) ?_)
    refine qF H <| qr 7 rfl <| qK ?_;clear H a;intro a H
    refine wq_nil ?_
    refine k25 _ _ ?_
    clear k25 K25
    refine wp_seq_k fun K26 k26 => ?_
    replace H := H.keep [1, 2, 3, 7, 8, 9, 11, 12, 16] rfl
    refine sS H fun K27 k27=>sr 3 rfl <| sg 3 2 133 136 true rfl rfl (fun hg3 => by
        have hq3 := hg3;try simp only [o1,o2,o3,o4,o5,o6,o7,o8,o9,oa] at hq3
        exact sy hg3 <| sr 1 rfl <| sy hg3 <| sr 1 rfl <| sy hg3 <| sr 1 rfl <| sz 3 rfl rfl rfl) <| sa rfl rfl rfl <| sr 1 rfl <| sg 3 7 138 141 true rfl rfl (fun hg8 => by
        have hq8 := hg8;try simp only [o1,o2,o3,o4,o5,o6,o7,o8,o9,oa] at hq8
        exact sy hg8 <| sr 1 rfl <| sy hg8 <| sr 1 rfl <| sy hg8 <| sr 1 rfl <| sz 3 rfl rfl rfl) <| sa rfl rfl rfl <| sE ?_;clear H a;intro a H
    refine k27 _ ?_;clear k27 K27
    refine cond_ H rfl (fun hc7 => ?_) (fun hc7 => ?_)
    ·skip
     try simp only [o1,o2,o3,o4,o5,o6,o7,o8,o9,oa] at hc7
     obtain ⟨⟨hi1, hi2⟩, hi3⟩ := hc7
     obtain rfl : h = kh := by omega
     obtain rfl : i = ki := by omega
     have hb9 := (hkf hi1).2.2.1
     rw [hbk] at hb9
     rw [if_pos (of_decide_eq_true hb9)] at hwv
     replace H := H.keep [16] rfl
     refine seq_list fun K28 k28 => ?_
     refine ls 3 H <| sr 1 rfl <| sd (does_eq_t rfl rfl hwv) <| sr 1 rfl <| sE ?_;clear H a;intro a H
     refine list_yes H rfl rfl ?_
     refine list_call H rfl rfl Try.func15 rfl rfl (law_works _) ?_;clear H a
     rintro _ _ a ⟨rfl, S2⟩ H
     replace S := S.call S2;clear S2
     refine ls 2 H <| sa rfl rfl rfl <| sr 1 rfl <| sE ?_;clear H a;intro a H
     refine k28 _ _ ?_;clear k28 K28
     refine wp_ret ?_
     refine ret1 (fn := Try.f11) rfl H rfl ?_
     exact ⟨rfl, (S.sel [] rfl rfl)⟩
    try simp only [o1,o2,o3,o4,o5,o6,o7,o8,o9,oa] at hc7
    have hgo := hc7
    refine wp_skip ?_
    refine k26 _ _ ?_
    refine sS H fun K29 k29=>sr 2 rfl <| sE ?_;clear H a;intro a H
    refine k29 _ ?_;clear k29 K29
    refine condN H rfl (fun hc8 => ?_) (fun hc8 => ?_)
    ·skip
     exfalso
     have hb9 : broken P ps (day.getD h Hq.zero) h (l.getD i Prm.zero) = false := by
       cases his : is with
       | true => exact (hkt his).2.2 h (by omega) i (by omega)
       | false =>
         have hk9 := hkf his
         by_cases e : h = kh
         · have := hci his e
           subst e
           refine hk9.2.2.2.2 i ?_
           rcases Nat.lt_or_ge i ki with h8 | h8
           · exact h8
           · exfalso; have := go_on hgo his rfl; omega
         · exact hk9.2.2.2.1 h (by have := hch his; omega) i (by omega)
     rw [hbk] at hb9
     rw [if_neg (of_decide_eq_false hb9)] at hwv
     exact hc8 hwv
    refine wp_skip ?_
    refine k18 _ _ ?_
    replace H := H.keep [1, 2, 3, 7, 8, 9, 11, 12] rfl
    refine sO H <| sr 1 rfl <| sd (does_add rfl rfl (by unfold i64ok; omega)) <| sr 1 rfl <| sE ?_;clear H a;intro a H
    exact k15 (g2 - 1) (i + 1) a _ (by omega) (⟨by omega, by omega, fun h9 h8 => by have h7 := hci h9 h8; have h6 := go_on hgo h9 h8; omega⟩) (S.sel [2] rfl rfl) (H.keep [12, 1, 2, 3, 7, 8, 9, 11] rfl)
   have hin : (l.getD i Prm.zero).first ≤ (h : Int) ∧ (h : Int) ≤ (l.getD i Prm.zero).last := by omega
   have hpi := prmOk_iff.1 (hpr i (by omega))
   have hwv := way_brk (out := (day.getD h Hq.zero).out) (help := (l.getD i Prm.zero).helped) (fr := (l.getD i Prm.zero).fr) (to := (l.getD i Prm.zero).to) hst (hdk.2 h (by omega)).1 (by omega) (by omega)
   have hbk := broken_in (P := P) (ps := ps) (h := (day.getD h Hq.zero)) (n := h) (p := (l.getD i Prm.zero)) hin
   rw [hB, Bool.true_and] at hbk
   replace H := H.keep [1, 2, 3, 7, 8, 9, 11, 12, 13] rfl
   replace S := S.drew
   refine seq_wq [(0, true), (1, true), (2, true), (3, true), (4, true), (5, true), (6, true), (7, true), (8, true), (9, true), (10, true), (11, true), (12, true), (13, true), (14, true), (15, true), (16, true), (17, true), (18, true), (19, false), (20, true), (21, true), (22, true), (23, true), (24, true), (25, true), (26, true)] (by kernel_rfl) (by kernel_rfl) (S.sel [0, 1] rfl rfl) fun K31 k31 => ?_
   refine qF H <| qd rfl (fun _ S => (does_loadBox agg_25 sz_25 rfl S (i := 1) rfl rfl)) <| qr 2 rfl <| qd rfl (fun _ S => does_indexN sl_65 sz_74 rfl rfl (hday.adr (by omega)) (by omega)) <| qd rfl (fun _ S => (does_field_pt fo_74_0 rfl)) <| qd rfl (fun _ S => does_load one_3 rfl (hday.rd S (by omega) (by omega))) <| qr 2 rfl <| qd rfl (fun _ S => does_indexN sl_65 sz_74 rfl rfl (hday.adr (by omega)) (by omega)) <| qd rfl (fun _ S => (does_field_pt fo_74_1 rfl)) <| qd rfl (fun _ S => (does_load one_4 rfl (hday.rd S (k := h) (j := 1) (by omega) (by omega))).to (congrArg Value.bool hB)) <| qr 1 rfl <| qK ?_;clear H a;intro a H
   refine wq_yes H rfl rfl rfl rfl (fun _ S => (does_field fo_72_4 rfl)) ?_;clear H a;intro a H
   refine wq_yes H rfl rfl rfl rfl (fun _ S => does_load one_4 rfl (boxM.rd S (i := 0) rfl rfl)) ?_;clear H a;intro a H
   refine qF H <| qd rfl (fun _ S => (does_and rfl rfl rfl)) <| qd rfl (fun _ S => (does_field fo_72_0 rfl)) <| qd rfl (fun _ S => does_load one_3 rfl (boxM.rd S (i := 0) rfl rfl)) <| qd rfl (fun _ S => (does_field fo_72_1 rfl)) <| qd rfl (fun _ S => does_load one_3 rfl (boxM.rd S (i := 0) rfl rfl)) <| qK ?_;clear H a;intro a H
   refine wq_eff rfl ?_
   refine list_call H rfl rfl Try.func21 rfl rfl (ret_imp (ways_Way P ps PA pc xs XA xc (day.getD h Hq.zero).out (l.getD i Prm.zero).helped (l.getD i Prm.zero).fr (l.getD i Prm.zero).to _ (hps.now S) hpn (hxs.now S) hxn) (fun u w' h => way_form h)) ?_;clear H a
   rintro _ _ a ⟨A8, c8, rfl, _, S2⟩ H
   replace S := S.call S2;clear S2
   refine wpList_nil (And.intro (S.sel [1, 2] rfl rfl) ?_)
   refine qF H <| qr 7 rfl <| qK ?_;clear H a;intro a H
   refine wq_nil ?_
   refine k31 _ _ ?_
   clear k31 K31
   refine wp_seq_k fun K32 k32 => ?_
   replace H := H.keep [1, 2, 3, 7, 8, 9, 11, 12, 16] rfl
   refine sS H fun K33 k33=>sr 3 rfl <| sg 3 2 133 136 true rfl rfl (fun hg3 => by
       have hq3 := hg3;try simp only [o1,o2,o3,o4,o5,o6,o7,o8,o9,oa] at hq3
       exact sy hg3 <| sr 1 rfl <| sy hg3 <| sr 1 rfl <| sy hg3 <| sr 1 rfl <| sz 3 rfl rfl rfl) <| sa rfl rfl rfl <| sr 1 rfl <| sg 3 7 138 141 true rfl rfl (fun hg8 => by
       have hq8 := hg8;try simp only [o1,o2,o3,o4,o5,o6,o7,o8,o9,oa] at hq8
       exact sy hg8 <| sr 1 rfl <| sy hg8 <| sr 1 rfl <| sy hg8 <| sr 1 rfl <| sz 3 rfl rfl rfl) <| sa rfl rfl rfl <| sE ?_;clear H a;intro a H
   refine k33 _ ?_;clear k33 K33
   refine cond_ H rfl (fun hc9 => ?_) (fun hc9 => ?_)
   ·skip
    try simp only [o1,o2,o3,o4,o5,o6,o7,o8,o9,oa] at hc9
    obtain ⟨⟨hi1, hi2⟩, hi3⟩ := hc9
    obtain rfl : h = kh := by omega
    obtain rfl : i = ki := by omega
    have hb9 := (hkf hi1).2.2.1
    rw [hbk] at hb9
    rw [if_pos (of_decide_eq_true hb9)] at hwv
    replace H := H.keep [16] rfl
    refine seq_list fun K34 k34 => ?_
    refine ls 3 H <| sr 1 rfl <| sd (does_eq_t rfl rfl hwv) <| sr 1 rfl <| sE ?_;clear H a;intro a H
    refine list_yes H rfl rfl ?_
    refine list_call H rfl rfl Try.func15 rfl rfl (law_works _) ?_;clear H a
    rintro _ _ a ⟨rfl, S2⟩ H
    replace S := S.call S2;clear S2
    refine ls 2 H <| sa rfl rfl rfl <| sr 1 rfl <| sE ?_;clear H a;intro a H
    refine k34 _ _ ?_;clear k34 K34
    refine wp_ret ?_
    refine ret1 (fn := Try.f11) rfl H rfl ?_
    exact ⟨rfl, (S.sel [] rfl rfl)⟩
   try simp only [o1,o2,o3,o4,o5,o6,o7,o8,o9,oa] at hc9
   have hgo := hc9
   refine wp_skip ?_
   refine k32 _ _ ?_
   refine sS H fun K35 k35=>sr 2 rfl <| sE ?_;clear H a;intro a H
   refine k35 _ ?_;clear k35 K35
   refine condN H rfl (fun hc10 => ?_) (fun hc10 => ?_)
   ·skip
    exfalso
    have hb9 : broken P ps (day.getD h Hq.zero) h (l.getD i Prm.zero) = false := by
      cases his : is with
      | true => exact (hkt his).2.2 h (by omega) i (by omega)
      | false =>
        have hk9 := hkf his
        by_cases e : h = kh
        · have := hci his e
          subst e
          refine hk9.2.2.2.2 i ?_
          rcases Nat.lt_or_ge i ki with h8 | h8
          · exact h8
          · exfalso; have := go_on hgo his rfl; omega
        · exact hk9.2.2.2.1 h (by have := hch his; omega) i (by omega)
    rw [hbk] at hb9
    rw [if_neg (of_decide_eq_false hb9)] at hwv
    exact hc10 hwv
   refine wp_skip ?_
   refine k18 _ _ ?_
   replace H := H.keep [1, 2, 3, 7, 8, 9, 11, 12] rfl
   refine sO H <| sr 1 rfl <| sd (does_add rfl rfl (by unfold i64ok; omega)) <| sr 1 rfl <| sE ?_;clear H a;intro a H
   exact k15 (g2 - 1) (i + 1) a _ (by omega) (⟨by omega, by omega, fun h9 h8 => by have h7 := hci h9 h8; have h6 := go_on hgo h9 h8; omega⟩) (S.sel [2] rfl rfl) (H.keep [12, 1, 2, 3, 7, 8, 9, 11] rfl)
  refine wp_exit ?_
  refine k13 _ _ ?_
  refine sO H <| sr 1 rfl <| sd (does_add rfl rfl (by unfold i64ok; omega)) <| sr 1 rfl <| sE ?_;clear H a;intro a H
  exact k10 (g1 - 1) (h + 1) a _ (by omega) (⟨by omega, by omega, fun h9 => by have h8 := hkf h9; have h7 := hch h9; by_cases e : h = kh; (have := hci h9 e; omega); omega⟩) (S.sel [0] rfl rfl) (H.keep [11, 1, 2, 3, 7, 8, 9] rfl)
 have his : is = true := by
   cases hb : is with
   | true => rfl
   | false => exfalso; have h8 := hkf hb; have h7 := hch hb; omega
 subst his
 refine wp_exit ?_
 refine k8 _ _ ?_
 replace H := H.keep [9] rfl
 refine seq_list fun K38 k38 => ?_
 refine ls 2 H <| sr 2 rfl <| sE ?_;clear H a;intro a H
 refine list_yes H rfl rfl ?_
 refine list_call H rfl rfl Try.func15 rfl rfl (law_works _) ?_;clear H a
 rintro _ _ a ⟨rfl, S2⟩ H
 replace S := S.call S2;clear S2
 refine ls 2 H <| sa rfl rfl rfl <| sr 1 rfl <| sE ?_;clear H a;intro a H
 refine k38 _ _ ?_;clear k38 K38
 refine wp_ret ?_
 refine ret1 (fn := Try.f11) rfl H rfl ?_
 exact ⟨rfl, (S.sel [] rfl rfl)⟩

theorem law_WaysKeeps {B : Nat} (pl : Int) (ps : List Psg) (PA : Option Addr) (pc : Nat) (xs : List Int) (XA : Option Addr) (xc : Nat) (dl : List Hr) (HA : Option Addr) (hcp : Nat) (l : List Prm) (LA : Option Addr) (lc : Nat) (w : World) (hps : InS w noF 7 PA ps.length (pcell ps)) (hpn8 : 56 * ps.length ≤ 140737488355328) (hxs : InS w noF 1 XA xs.length (icl xs)) (hxn8 : 8 * xs.length ≤ 140737488355328) (hdl0 : InS w noF 3 HA dl.length (hrcell dl)) (hd8 : 40 * dl.length ≤ 140737488355328) (hdd : ∀ k, k < dl.length → InS w noF 1 (dl.getD k Hr.zero).A (dl.getD k Hr.zero).pe.length (icl (dl.getD k Hr.zero).pe) ∧ (dl.getD k Hr.zero).pe.length * 8 ≤ 140737488351232 ∧ (dl.getD k Hr.zero).pe.length ≤ B) (hl : InS w noF 5 LA l.length (prcell l)) (hl8 : 40 * l.length ≤ 140737488355328) :
    Calls Try.prog 11 [.agg [.int .i64 pl, .slice PA ps.length pc, .slice XA xs.length xc].toArray, .slice HA dl.length hcp, .slice LA l.length lc].toArray w (Ret fun u w' => u = .bool true ∧ St w noF [] w') := by
  have h := lawq_WaysKeeps pl ps PA pc xs XA xc (dl.map Hr.q) HA hcp (fun k => (dl.getD k Hr.zero).A) (fun k => (dl.getD k Hr.zero).c) l LA lc w hps hpn8 hxs hxn8 (by rw [List.length_map, ← hrcell_hcl]; exact hdl0) (by rw [List.length_map]; exact hd8) (fun k hk => by rw [List.length_map] at hk; rw [hr_q]; exact (hdd k hk).1) (fun k hk => by rw [List.length_map] at hk; rw [hr_q]; have := (hdd k hk).2.1; show 8 * (dl.getD k Hr.zero).pe.length ≤ _; omega) hl hl8
  rw [List.length_map] at h
  exact h


end Go.Proofs.Ytlmddkekeoebcaa
