/- EnA. Printed by gen.py. -/
import Derived.Test.YtdepakimbagonaaWyE
namespace Go.Proofs.Ytdepakimbagonaa
open Go.RowKit
set_option linter.unusedVariables false
set_option linter.unusedSimpArgs false
set_option maxRecDepth 100000
set_option maxHeartbeats 4000000


def prvP (l : List Int) : Nat → Int
  | 0 => 0
  | k + 1 => l.getD k 0
def pcB (l : List Int) (k : Nat) : Bool := decide (prvP l k < l.getD k 0 ∧ l.getD k 0 ≤ 100)
def bandI (pull drag body ride most : Int) (l : List Int) (num den : Int) : Prop := ((0 ≤ pull ∧ pull ≤ 100) ∧ (0 ≤ drag ∧ drag ≤ 1000000) ∧ (0 ≤ body ∧ body ≤ 100) ∧ (1 ≤ ride ∧ ride ≤ 1000) ∧ (0 ≤ most ∧ most ≤ 100000000)) ∧ (1 ≤ l.length ∧ l.length ≤ 3) ∧ (1 ≤ den ∧ den ≤ 100) ∧ (0 ≤ num ∧ num ≤ den)
instance (pull drag body ride most : Int) (l : List Int) (num den : Int) : Decidable (bandI pull drag body ride most l num den) := by unfold bandI; exact inferInstance
def bandB (pull drag body ride most : Int) (l : List Int) (num den : Int) : Bool := decide (bandI pull drag body ride most l num den) && allN (pcB l) l.length
def bandE (pull drag body ride most : Int) (l : List Int) (num den : Int) : Int := if bandB pull drag body ride most l num den = true then 0 else 110
section
variable {pull drag body ride most num den : Int} {l : List Int} {k : Nat}
theorem bandE_bad (h : ¬ bandI pull drag body ride most l num den) : bandE pull drag body ride most l num den = 110 := by
  unfold bandE bandB; rw [decide_eq_false h, Bool.false_and, if_neg (by simp)]
theorem bandE_pace (hk : k < l.length) (h : ¬ (prvP l k < l.getD k 0 ∧ l.getD k 0 ≤ 100)) : bandE pull drag body ride most l num den = 110 := by
  unfold bandE bandB
  rw [if_neg]
  rw [Bool.and_eq_true, allN_iff]
  rintro ⟨_, h2⟩
  have := h2 k hk
  unfold pcB at this
  exact h (of_decide_eq_true this)
theorem bandE_ok (h : bandI pull drag body ride most l num den) (h2 : ∀ q, q < l.length → pcB l q = true) : bandE pull drag body ride most l num den = 0 := by
  unfold bandE bandB; rw [decide_eq_true h, Bool.true_and, if_pos (allN_iff.2 h2)]
theorem band_of (h : bandE pull drag body ride most l num den = 0) : bandI pull drag body ride most l num den ∧ ∀ q, q < l.length → prvP l q < l.getD q 0 ∧ l.getD q 0 ≤ 100 := by
  unfold bandE at h
  split at h
  · rename_i h1
    unfold bandB at h1
    rw [Bool.and_eq_true, allN_iff] at h1
    refine ⟨of_decide_eq_true h1.1, fun q hq => ?_⟩
    have := h1.2 q hq
    unfold pcB at this
    exact of_decide_eq_true this
  · cases h
theorem prvP_pos (h2 : ∀ q, q < l.length → prvP l q < l.getD q 0 ∧ l.getD q 0 ≤ 100) : ∀ q, q < l.length → 1 ≤ l.getD q 0 ∧ l.getD q 0 ≤ 100 := by
  intro q
  induction q with
  | zero => intro hq; have := h2 0 hq; have h3 : prvP l 0 = 0 := rfl; omega
  | succ q ih => intro hq; have := h2 (q + 1) hq; have h3 : prvP l (q + 1) = l.getD q 0 := rfl; have := ih (by omega); omega
theorem pc_next (h : ∀ q, q < k → pcB l q = true) (h1 : prvP l k < l.getD k 0 ∧ l.getD k 0 ≤ 100) : ∀ q, q < k + 1 → pcB l q = true := fun q hq => by
  by_cases e : q = k
  · subst e; unfold pcB; exact decide_eq_true h1
  · exact h q (by omega)
theorem prvP_bd : ∀ k, (∀ q, q < k → pcB l q = true) → 0 ≤ prvP l k ∧ prvP l k ≤ 100 := by
  intro k
  induction k with
  | zero => intro _; exact ⟨Int.le_refl 0, (by decide : (0 : Int) ≤ 100)⟩
  | succ k ih =>
    intro h
    have h1 := ih (fun q hq => h q (by omega))
    have h2 := h k (by omega)
    unfold pcB at h2
    have h3 := of_decide_eq_true h2
    have h4 : prvP l (k + 1) = l.getD k 0 := rfl
    omega
theorem has_in {x : Int} (h : hasI l x = true) : ∃ q, q < l.length ∧ l.getD q 0 = x := by
  unfold hasI at h
  obtain ⟨y, hy, hxy⟩ := List.any_eq_true.1 h
  obtain ⟨q, hq, rfl⟩ := List.getElem_of_mem hy
  refine ⟨q, hq, ?_⟩
  rw [List.getD_eq_getElem?_getD, List.getElem?_eq_getElem hq]
  exact (of_decide_eq_true hxy).symm
theorem has_no {x : Int} (h : ∀ q, q < l.length → l.getD q 0 ≠ x) : hasI l x = false := by
  rw [← Bool.not_eq_true]
  intro h1
  obtain ⟨q, hq, e⟩ := has_in h1
  exact h q hq e
theorem has_yes {x : Int} (hk : k < l.length) (h : l.getD k 0 = x) : hasI l x = true := by
  rw [List.getD_eq_getElem?_getD, List.getElem?_eq_getElem hk] at h
  exact List.any_eq_true.2 ⟨_, List.getElem_mem hk, decide_eq_true h.symm⟩
end


theorem en_within (n lo hi : Int) (w : World) :
    Calls Try.prog 39 [.int .i64 n, .int .i64 lo, .int .i64 hi].toArray w (Ret (fun v w' => v = .bool (decide (lo ≤ n) && decide (n ≤ hi)) ∧ w' = w)) := by
 refine enter Try.func39 rfl Try.ntmps39 rfl (fun a H => ?_)
 have S := St.start w
 refine sS H fun K1 k1=>sr 1 rfl <| sE ?_;clear H a;intro a H
 refine k1 _ ?_;clear k1 K1
 replace H := H.keep [0, 1, 2] rfl
 refine sS H fun K2 k2=>sr 4 rfl <| sg 3 3 10 13 true rfl rfl (fun hg4 => sy hg4 <| sr 1 rfl <| sy hg4 <| sr 1 rfl <| sy hg4 <| sr 1 rfl <| sz 3 rfl rfl rfl) <| sa rfl rfl rfl <| sr 1 rfl <| sE ?_;clear H a;intro a H
 refine k2 _ ?_;clear k2 K2
 refine wp_ret ?_
 refine ret1 (fn := Try.f39) rfl H rfl ?_
 exact ⟨rfl, rfl⟩

theorem en_from0 (n hi : Int) (w : World) :
    Calls Try.prog 57 [.int .i64 n, .int .i64 hi].toArray w (Ret (fun v w' => v = .bool (decide (0 ≤ n) && decide (n ≤ hi)) ∧ w' = w)) := by
 refine enter Try.func57 rfl Try.ntmps57 rfl (fun a H => ?_)
 have S := St.start w
 refine sS H fun K1 k1=>sr 1 rfl <| sE ?_;clear H a;intro a H
 refine k1 _ ?_;clear k1 K1
 refine sS H fun K2 k2=>sr 3 rfl <| sg 3 2 7 10 true rfl rfl (fun hg3 => sy hg3 <| sr 1 rfl <| sy hg3 <| sr 1 rfl <| sy hg3 <| sr 1 rfl <| sz 3 rfl rfl rfl) <| sa rfl rfl rfl <| sr 1 rfl <| sE ?_;clear H a;intro a H
 refine k2 _ ?_;clear k2 K2
 refine wp_ret ?_
 refine ret1 (fn := Try.f57) rfl H rfl ?_
 exact ⟨rfl, rfl⟩

theorem eref_Check (up : Bool) (pull drag body ride most : Int) (pcs : List Int) (CA : Option Addr) (cc : Nat) (num den : Int) (w : World) (hcs : InS w noF 1 CA pcs.length (icl pcs)) (hcn : pcs.length ≤ 9223372036854775807) :
    Calls Try.prog 17 [.agg [.bool up, .int .i64 pull, .int .i64 drag, .int .i64 body, .int .i64 ride, .int .i64 most, .slice CA pcs.length cc, .int .i64 num, .int .i64 den].toArray].toArray w (Ret (fun v w' => v = .int .i64 (bandE pull drag body ride most pcs num den) ∧ St w noF [] w')) := by
 refine enter Try.func17 rfl Try.ntmps17 rfl (fun a H => ?_)
 have S := St.start w
 refine seq_list fun K1 k1 => ?_
 refine list_box H rfl S rfl rfl ?_;clear H a S;intro b1 _ a hb1 hbw1 S H
 refine ls 1 H <| sr 1 rfl <| sE ?_;clear H a;intro a H
 refine k1 _ _ ?_;clear k1 K1
 refine wp_seq_k fun K2 k2 => ?_
 replace H := H.keep [1] rfl
 refine sS H fun K3 k3=>sf fo_53_1 rfl <| sl S 0 one_3 rfl rfl rfl <| sc rfl Try.func39 rfl rfl (en_within _ _ _ _) <| sr 2 rfl <| sg 4 4 9 13 false rfl rfl (fun hg5 => sy hg5 <| sf fo_53_2 rfl <| sy hg5 <| sl S 0 one_3 rfl rfl rfl <| sy hg5 <| sc rfl Try.func39 rfl rfl (en_within _ _ _ _) <| sy hg5 <| sr 1 rfl <| sz 4 rfl rfl rfl) <| so rfl rfl rfl <| sr 1 rfl <| sg 4 10 15 19 false rfl rfl (fun hg11 => sy hg11 <| sf fo_53_3 rfl <| sy hg11 <| sl S 0 one_3 rfl rfl rfl <| sy hg11 <| sc rfl Try.func39 rfl rfl (en_within _ _ _ _) <| sy hg11 <| sr 1 rfl <| sz 4 rfl rfl rfl) <| so rfl rfl rfl <| sr 1 rfl <| sg 4 16 21 25 false rfl rfl (fun hg17 => sy hg17 <| sf fo_53_4 rfl <| sy hg17 <| sl S 0 one_3 rfl rfl rfl <| sy hg17 <| sc rfl Try.func39 rfl rfl (en_within _ _ _ _) <| sy hg17 <| sr 1 rfl <| sz 4 rfl rfl rfl) <| so rfl rfl rfl <| sr 1 rfl <| sg 4 22 27 31 false rfl rfl (fun hg23 => sy hg23 <| sf fo_53_5 rfl <| sy hg23 <| sl S 0 one_3 rfl rfl rfl <| sy hg23 <| sc rfl Try.func39 rfl rfl (en_within _ _ _ _) <| sy hg23 <| sr 1 rfl <| sz 4 rfl rfl rfl) <| so rfl rfl rfl <| sE ?_;clear H a;intro a H
 refine k3 _ ?_;clear k3 K3
 refine cond_ H rfl (fun hc1 => ?_) (fun hc1 => ?_)
 ·skip
  try simp only [o1,o2,o3,o4,o5,o6,o7,o8,o9,oa] at hc1
  replace H := H.keep [] rfl
  refine sS H fun K4 k4=>sr 1 rfl <| sE ?_;clear H a;intro a H
  refine k4 _ ?_;clear k4 K4
  refine wp_ret ?_
  refine ret1 (fn := Try.f17) rfl H rfl ?_
  rw [bandE_bad (fun h => by unfold bandI at h; omega)]; exact ⟨rfl, (S.sel [] rfl rfl)⟩
 try simp only [o1,o2,o3,o4,o5,o6,o7,o8,o9,oa] at hc1
 refine wp_skip ?_
 refine k2 _ _ ?_
 refine wp_seq_k fun K5 k5 => ?_
 replace H := H.keep [1] rfl
 refine sS H fun K6 k6=>sf fo_53_6 rfl <| sl S 0 one_25 rfl rfl rfl <| sL sl_25 rfl <| sc rfl Try.func39 rfl rfl (en_within _ _ _ _) <| sr 2 rfl <| sg 4 5 38 42 false rfl rfl (fun hg6 => sy hg6 <| sf fo_53_8 rfl <| sy hg6 <| sl S 0 one_3 rfl rfl rfl <| sy hg6 <| sc rfl Try.func39 rfl rfl (en_within _ _ _ _) <| sy hg6 <| sr 1 rfl <| sz 4 rfl rfl rfl) <| so rfl rfl rfl <| sr 1 rfl <| sg 6 11 44 50 false rfl rfl (fun hg12 => sy hg12 <| sf fo_53_7 rfl <| sy hg12 <| sl S 0 one_3 rfl rfl rfl <| sy hg12 <| sf fo_53_8 rfl <| sy hg12 <| sl S 0 one_3 rfl rfl rfl <| sy hg12 <| sc rfl Try.func39 rfl rfl (en_within _ _ _ _) <| sy hg12 <| sr 1 rfl <| sz 6 rfl rfl rfl) <| so rfl rfl rfl <| sE ?_;clear H a;intro a H
 refine k6 _ ?_;clear k6 K6
 refine cond_ H rfl (fun hc2 => ?_) (fun hc2 => ?_)
 ·skip
  try simp only [o1,o2,o3,o4,o5,o6,o7,o8,o9,oa] at hc2
  replace H := H.keep [] rfl
  refine sS H fun K7 k7=>sr 1 rfl <| sE ?_;clear H a;intro a H
  refine k7 _ ?_;clear k7 K7
  refine wp_ret ?_
  refine ret1 (fn := Try.f17) rfl H rfl ?_
  rw [bandE_bad (fun h => by unfold bandI at h; omega)]; exact ⟨rfl, (S.sel [] rfl rfl)⟩
 try simp only [o1,o2,o3,o4,o5,o6,o7,o8,o9,oa] at hc2
 refine wp_skip ?_
 refine k5 _ _ ?_
 refine sS H fun K8 k8=>sr 1 rfl <| sE ?_;clear H a;intro a H
 refine k8 _ ?_;clear k8 K8
 refine wp_seq_k fun K9 k9 => ?_
 refine sS H fun K10 k10=>sr 1 rfl <| sE ?_;clear H a;intro a H
 refine k10 _ ?_;clear k10 K10
 refine wp_block ?_
 refine loop_st (X := Nat) (R0 := _) [1] H rfl (fun k => [(3, .int .i64 (prvP pcs k)), (4, .int .i64 (k : Int))]) (fun k => []) (fun g k => k ≤ pcs.length ∧ g + k = pcs.length ∧ ∀ q, q < k → pcB pcs q = true) (pcs.length) 0 ?_ (S.sel [0] rfl rfl) (H.keep [3, 4, 1] rfl) ?_
 · exact ⟨by omega, by omega, fun q hq => absurd hq (Nat.not_lt_zero q)⟩
 clear H S a
 intro g1 x1 a w1 hp S H K11 k11
 obtain ⟨k, rfl⟩ : ∃ y, y = x1 := ⟨_, rfl⟩
 refine wp_seq_k fun K12 k12 => ?_
 refine sS H fun K13 k13=>sr 1 rfl <| sf fo_53_6 rfl <| sl S 0 one_25 rfl rfl rfl <| sL sl_25 rfl <| sr 1 rfl <| sE ?_;clear H a;intro a H
 refine k13 _ ?_;clear k13 K13
 refine condL H rfl (fun hc3 => ?_) (fun hc3 => ?_)
 ·skip
  refine wp_skip ?_
  refine k12 _ _ ?_
  refine wp_seq_k fun K14 k14 => ?_
  refine wp_block ?_
  refine wp_seq_k fun K15 k15 => ?_
  have hpv := prvP_bd k hp.2.2
  replace H := H.keep [1, 3, 4] rfl
  refine sS H fun K16 k16=>sf fo_53_6 rfl <| sl S 0 one_25 rfl rfl rfl <| sr 1 rfl <| si sl_25 sz_3 rfl rfl (hcs.adr (by omega)) (by omega) <| slm one_3 rfl (hcs.rd S (by omega) (by omega)) <| sr 1 rfl <| sd (does_add rfl rfl (by unfold i64ok; omega)) <| sc rfl Try.func39 rfl rfl (en_within _ _ _ _) <| sr 1 rfl <| sE ?_;clear H a;intro a H
  refine k16 _ ?_;clear k16 K16
  refine cond_ H rfl (fun hc4 => ?_) (fun hc4 => ?_)
  ·skip
   try simp only [o1,o2,o3,o4,o5,o6,o7,o8,o9,oa] at hc4
   replace H := H.keep [] rfl
   refine sS H fun K17 k17=>sr 1 rfl <| sE ?_;clear H a;intro a H
   refine k17 _ ?_;clear k17 K17
   refine wp_ret ?_
   refine ret1 (fn := Try.f17) rfl H rfl ?_
   rw [bandE_pace (k := k) (by omega) (by omega)]; exact ⟨rfl, (S.sel [] rfl rfl)⟩
  try simp only [o1,o2,o3,o4,o5,o6,o7,o8,o9,oa] at hc4
  refine wp_skip ?_
  refine k15 _ _ ?_
  refine sO H <| sf fo_53_6 rfl <| sl S 0 one_25 rfl rfl rfl <| sr 1 rfl <| si sl_25 sz_3 rfl rfl (hcs.adr (by omega)) (by omega) <| slm one_3 rfl (hcs.rd S (by omega) (by omega)) <| sr 1 rfl <| sE ?_;clear H a;intro a H
  refine k14 _ _ ?_
  replace H := H.keep [1, 3, 4] rfl
  refine sO H <| sr 1 rfl <| sd (does_add rfl rfl (by unfold i64ok; omega)) <| sr 1 rfl <| sE ?_;clear H a;intro a H
  exact k11 (g1 - 1) (k + 1) a _ (by omega) (⟨by omega, by omega, pc_next hp.2.2 (by omega)⟩) (S.sel [0] rfl rfl) (H.keep [3, 4, 1] rfl)
 refine wp_exit ?_
 refine k9 _ _ ?_
 refine sS H fun K20 k20=>sr 1 rfl <| sE ?_;clear H a;intro a H
 refine k20 _ ?_;clear k20 K20
 refine wp_ret ?_
 refine ret1 (fn := Try.f17) rfl H rfl ?_
 rw [bandE_ok (by unfold bandI; omega) (fun q hq => hp.2.2 q (by omega))]; exact ⟨rfl, (S.sel [] rfl rfl)⟩

theorem en_Check (up : Bool) (pull drag body ride most : Int) (pcs : List Int) (CA : Option Addr) (cc : Nat) (num den : Int) (w : World) (hcs : InS w noF 1 CA pcs.length (icl pcs)) (hcn : pcs.length ≤ 9223372036854775807) :
    Calls Try.prog 56 [.agg [.bool up, .int .i64 pull, .int .i64 drag, .int .i64 body, .int .i64 ride, .int .i64 most, .slice CA pcs.length cc, .int .i64 num, .int .i64 den].toArray].toArray w (Ret (fun v w' => v = .int .i64 (bandE pull drag body ride most pcs num den) ∧ St w noF [] w')) := by
 refine enter Try.func56 rfl Try.ntmps56 rfl (fun a H => ?_)
 have S := St.start w
 refine seq_list fun K1 k1 => ?_
 refine list_box H rfl S rfl rfl ?_;clear H a S;intro b1 _ a hb1 hbw1 S H
 refine ls 1 H <| sr 1 rfl <| sE ?_;clear H a;intro a H
 refine k1 _ _ ?_;clear k1 K1
 refine wp_seq_k fun K2 k2 => ?_
 replace H := H.keep [1] rfl
 refine sS H fun K3 k3=>sf fo_53_1 rfl <| sl S 0 one_3 rfl rfl rfl <| sc rfl Try.func57 rfl rfl (en_from0 _ _ _) <| sr 2 rfl <| sg 4 4 10 14 false rfl rfl (fun hg5 => sy hg5 <| sf fo_53_2 rfl <| sy hg5 <| sl S 0 one_3 rfl rfl rfl <| sy hg5 <| sc rfl Try.func57 rfl rfl (en_from0 _ _ _) <| sy hg5 <| sr 1 rfl <| sz 4 rfl rfl rfl) <| so rfl rfl rfl <| sr 1 rfl <| sg 4 10 16 20 false rfl rfl (fun hg11 => sy hg11 <| sf fo_53_3 rfl <| sy hg11 <| sl S 0 one_3 rfl rfl rfl <| sy hg11 <| sc rfl Try.func57 rfl rfl (en_from0 _ _ _) <| sy hg11 <| sr 1 rfl <| sz 4 rfl rfl rfl) <| so rfl rfl rfl <| sr 1 rfl <| sg 3 16 22 25 false rfl rfl (fun hg17 => sy hg17 <| sf fo_53_4 rfl <| sy hg17 <| sl S 0 one_3 rfl rfl rfl <| sy hg17 <| sr 1 rfl <| sz 3 rfl rfl rfl) <| so rfl rfl rfl <| sr 1 rfl <| sg 3 21 27 30 false rfl rfl (fun hg22 => sy hg22 <| sf fo_53_4 rfl <| sy hg22 <| sl S 0 one_3 rfl rfl rfl <| sy hg22 <| sr 1 rfl <| sz 3 rfl rfl rfl) <| so rfl rfl rfl <| sr 1 rfl <| sg 4 26 32 36 false rfl rfl (fun hg27 => sy hg27 <| sf fo_53_5 rfl <| sy hg27 <| sl S 0 one_3 rfl rfl rfl <| sy hg27 <| sc rfl Try.func57 rfl rfl (en_from0 _ _ _) <| sy hg27 <| sr 1 rfl <| sz 4 rfl rfl rfl) <| so rfl rfl rfl <| sE ?_;clear H a;intro a H
 refine k3 _ ?_;clear k3 K3
 refine cond_ H rfl (fun hc1 => ?_) (fun hc1 => ?_)
 ·skip
  try simp only [o1,o2,o3,o4,o5,o6,o7,o8,o9,oa] at hc1
  replace H := H.keep [] rfl
  refine sS H fun K4 k4=>sr 1 rfl <| sE ?_;clear H a;intro a H
  refine k4 _ ?_;clear k4 K4
  refine wp_ret ?_
  refine ret1 (fn := Try.f56) rfl H rfl ?_
  rw [bandE_bad (fun h => by unfold bandI at h; omega)]; exact ⟨rfl, (S.sel [] rfl rfl)⟩
 try simp only [o1,o2,o3,o4,o5,o6,o7,o8,o9,oa] at hc1
 refine wp_skip ?_
 refine k2 _ _ ?_
 refine wp_seq_k fun K5 k5 => ?_
 replace H := H.keep [1] rfl
 refine sS H fun K6 k6=>sf fo_53_8 rfl <| sl S 0 one_3 rfl rfl rfl <| sr 2 rfl <| sg 3 3 41 44 false rfl rfl (fun hg4 => sy hg4 <| sf fo_53_8 rfl <| sy hg4 <| sl S 0 one_3 rfl rfl rfl <| sy hg4 <| sr 1 rfl <| sz 3 rfl rfl rfl) <| so rfl rfl rfl <| sr 1 rfl <| sg 6 8 46 52 false rfl rfl (fun hg9 => sy hg9 <| sf fo_53_7 rfl <| sy hg9 <| sl S 0 one_3 rfl rfl rfl <| sy hg9 <| sf fo_53_8 rfl <| sy hg9 <| sl S 0 one_3 rfl rfl rfl <| sy hg9 <| sc rfl Try.func57 rfl rfl (en_from0 _ _ _) <| sy hg9 <| sr 1 rfl <| sz 6 rfl rfl rfl) <| so rfl rfl rfl <| sr 1 rfl <| sg 4 16 54 58 false rfl rfl (fun hg17 => sy hg17 <| sf fo_53_6 rfl <| sy hg17 <| sl S 0 one_25 rfl rfl rfl <| sy hg17 <| sL sl_25 rfl <| sy hg17 <| sr 1 rfl <| sz 4 rfl rfl rfl) <| so rfl rfl rfl <| sr 1 rfl <| sg 4 22 60 64 false rfl rfl (fun hg23 => sy hg23 <| sf fo_53_6 rfl <| sy hg23 <| sl S 0 one_25 rfl rfl rfl <| sy hg23 <| sL sl_25 rfl <| sy hg23 <| sr 1 rfl <| sz 4 rfl rfl rfl) <| so rfl rfl rfl <| sE ?_;clear H a;intro a H
 refine k6 _ ?_;clear k6 K6
 refine cond_ H rfl (fun hc2 => ?_) (fun hc2 => ?_)
 ·skip
  try simp only [o1,o2,o3,o4,o5,o6,o7,o8,o9,oa] at hc2
  replace H := H.keep [] rfl
  refine sS H fun K7 k7=>sr 1 rfl <| sE ?_;clear H a;intro a H
  refine k7 _ ?_;clear k7 K7
  refine wp_ret ?_
  refine ret1 (fn := Try.f56) rfl H rfl ?_
  rw [bandE_bad (fun h => by unfold bandI at h; omega)]; exact ⟨rfl, (S.sel [] rfl rfl)⟩
 try simp only [o1,o2,o3,o4,o5,o6,o7,o8,o9,oa] at hc2
 refine wp_skip ?_
 refine k5 _ _ ?_
 refine sS H fun K8 k8=>sr 1 rfl <| sE ?_;clear H a;intro a H
 refine k8 _ ?_;clear k8 K8
 refine wp_seq_k fun K9 k9 => ?_
 refine sS H fun K10 k10=>sf fo_53_6 rfl <| sl S 0 one_25 rfl rfl rfl <| sL sl_25 rfl <| sr 1 rfl <| sE ?_;clear H a;intro a H
 refine k10 _ ?_;clear k10 K10
 refine wp_block ?_
 refine loop_st (X := Nat) (R0 := _) [67, 68] H rfl (fun k => [(3, .int .i64 (prvP pcs k)), (69, .int .i64 (k : Int))]) (fun k => []) (fun g k => k ≤ pcs.length ∧ g + k = pcs.length ∧ ∀ q, q < k → pcB pcs q = true) (pcs.length) 0 ?_ (S.sel [0] rfl rfl) (H.keep [3, 69, 67, 68] rfl) ?_
 · exact ⟨by omega, by omega, fun q hq => absurd hq (Nat.not_lt_zero q)⟩
 clear H S a
 intro g1 x1 a w1 hp S H K11 k11
 obtain ⟨k, rfl⟩ : ∃ y, y = x1 := ⟨_, rfl⟩
 refine sS H fun K12 k12=>sr 1 rfl <| sE ?_;clear H a;intro a H
 refine k12 _ ?_;clear k12 K12
 refine wp_seq_k fun K13 k13 => ?_
 refine condL H rfl (fun hc3 => ?_) (fun hc3 => ?_)
 ·skip
  refine wp_skip ?_
  refine k13 _ _ ?_
  refine wp_seq_k fun K14 k14 => ?_
  refine wp_block ?_
  refine sS H fun K15 k15=>si sl_25 sz_3 rfl rfl (hcs.adr (by omega)) (by omega) <| slm one_3 rfl (hcs.rd S (by omega) (by omega)) <| sr 1 rfl <| sE ?_;clear H a;intro a H
  refine k15 _ ?_;clear k15 K15
  refine wp_seq_k fun K16 k16 => ?_
  have hpv := prvP_bd k hp.2.2
  replace H := H.keep [3, 5, 67, 68, 69] rfl
  refine sS H fun K17 k17=>sr 4 rfl <| sg 2 3 76 78 false rfl rfl (fun hg4 => sy hg4 <| sr 1 rfl <| sy hg4 <| sr 1 rfl <| sz 2 rfl rfl rfl) <| so rfl rfl rfl <| sE ?_;clear H a;intro a H
  refine k17 _ ?_;clear k17 K17
  refine cond_ H rfl (fun hc4 => ?_) (fun hc4 => ?_)
  ·skip
   try simp only [o1,o2,o3,o4,o5,o6,o7,o8,o9,oa] at hc4
   refine sS H fun K18 k18=>sr 1 rfl <| sE ?_;clear H a;intro a H
   refine k18 _ ?_;clear k18 K18
   refine wp_ret ?_
   refine ret1 (fn := Try.f56) rfl H rfl ?_
   rw [bandE_pace (k := k) (by omega) (by omega)]; exact ⟨rfl, (S.sel [] rfl rfl)⟩
  try simp only [o1,o2,o3,o4,o5,o6,o7,o8,o9,oa] at hc4
  refine wp_skip ?_
  refine k16 _ _ ?_
  replace H := H.keep [5, 67, 68, 69] rfl
  refine sO H <| sr 2 rfl <| sE ?_;clear H a;intro a H
  refine k14 _ _ ?_
  refine sO H <| sd (does_add rfl rfl (by unfold i64ok; omega)) <| sr 1 rfl <| sE ?_;clear H a;intro a H
  exact k11 (g1 - 1) (k + 1) a _ (by omega) (⟨by omega, by omega, pc_next hp.2.2 (by omega)⟩) (S.sel [0] rfl rfl) (H.keep [3, 69, 67, 68] rfl)
 refine wp_exit ?_
 refine k9 _ _ ?_
 refine sS H fun K21 k21=>sr 1 rfl <| sE ?_;clear H a;intro a H
 refine k21 _ ?_;clear k21 K21
 refine wp_ret ?_
 refine ret1 (fn := Try.f56) rfl H rfl ?_
 rw [bandE_ok (by unfold bandI; omega) (fun q hq => hp.2.2 q (by omega))]; exact ⟨rfl, (S.sel [] rfl rfl)⟩

theorem eref_Pace (up : Bool) (pull drag body ride most : Int) (pcs : List Int) (CA : Option Addr) (cc : Nat) (num den : Int) (pace : Int) (w : World) (hcs : InS w noF 1 CA pcs.length (icl pcs)) (hcn : pcs.length ≤ 9223372036854775807) :
    Calls Try.prog 18 [.agg [.bool up, .int .i64 pull, .int .i64 drag, .int .i64 body, .int .i64 ride, .int .i64 most, .slice CA pcs.length cc, .int .i64 num, .int .i64 den].toArray, .int .i64 pace].toArray w (Ret (fun v w' => v = .bool (hasI pcs pace) ∧ St w noF [] w')) := by
 refine enter Try.func18 rfl Try.ntmps18 rfl (fun a H => ?_)
 have S := St.start w
 refine seq_list fun K1 k1 => ?_
 refine list_box H rfl S rfl rfl ?_;clear H a S;intro b2 _ a hb2 hbw2 S H
 refine ls 1 H <| sr 1 rfl <| sE ?_;clear H a;intro a H
 refine k1 _ _ ?_;clear k1 K1
 refine wp_seq_k fun K2 k2 => ?_
 refine sS H fun K3 k3=>sr 1 rfl <| sE ?_;clear H a;intro a H
 refine k3 _ ?_;clear k3 K3
 refine wp_block ?_
 refine loop_st (X := Nat) (R0 := _) [1, 2] H rfl (fun k => [(5, .int .i64 (k : Int))]) (fun k => []) (fun g k => k ≤ pcs.length ∧ g + k = pcs.length ∧ ∀ q, q < k → pcs.getD q 0 ≠ pace) (pcs.length) 0 ?_ (S.sel [0] rfl rfl) (H.keep [5, 1, 2] rfl) ?_
 · exact ⟨by omega, by omega, fun q hq => absurd hq (Nat.not_lt_zero q)⟩
 clear H S a
 intro g1 x1 a w1 hp S H K4 k4
 obtain ⟨k, rfl⟩ : ∃ y, y = x1 := ⟨_, rfl⟩
 refine wp_seq_k fun K5 k5 => ?_
 refine sS H fun K6 k6=>sr 1 rfl <| sf fo_53_6 rfl <| sl S 0 one_25 rfl rfl rfl <| sL sl_25 rfl <| sr 1 rfl <| sE ?_;clear H a;intro a H
 refine k6 _ ?_;clear k6 K6
 refine condL H rfl (fun hc1 => ?_) (fun hc1 => ?_)
 ·skip
  refine wp_skip ?_
  refine k5 _ _ ?_
  refine wp_seq_k fun K7 k7 => ?_
  refine wp_block ?_
  replace H := H.keep [1, 2, 5] rfl
  refine sS H fun K8 k8=>sf fo_53_6 rfl <| sl S 0 one_25 rfl rfl rfl <| sr 1 rfl <| si sl_25 sz_3 rfl rfl (hcs.adr (by omega)) (by omega) <| slm one_3 rfl (hcs.rd S (by omega) (by omega)) <| sr 2 rfl <| sE ?_;clear H a;intro a H
  refine k8 _ ?_;clear k8 K8
  refine condE H rfl (fun hc2 => ?_) (fun hc2 => ?_)
  ·skip
   refine sS H fun K9 k9=>sr 1 rfl <| sE ?_;clear H a;intro a H
   refine k9 _ ?_;clear k9 K9
   refine wp_ret ?_
   refine ret1 (fn := Try.f18) rfl H rfl ?_
   rw [has_yes (k := k) (by omega) hc2]; exact ⟨rfl, (S.sel [] rfl rfl)⟩
  refine wp_skip ?_
  refine k7 _ _ ?_
  replace H := H.keep [1, 2, 5] rfl
  refine sO H <| sr 1 rfl <| sd (does_add rfl rfl (by unfold i64ok; omega)) <| sr 1 rfl <| sE ?_;clear H a;intro a H
  exact k4 (g1 - 1) (k + 1) a _ (by omega) (⟨by omega, by omega, fun q hq => by
    by_cases e : q = k
    · subst e; exact hc2
    · exact hp.2.2 q (by omega)⟩) (S.sel [0] rfl rfl) (H.keep [5, 1, 2] rfl)
 refine wp_exit ?_
 refine k2 _ _ ?_
 refine sS H fun K11 k11=>sr 1 rfl <| sE ?_;clear H a;intro a H
 refine k11 _ ?_;clear k11 K11
 refine wp_ret ?_
 refine ret1 (fn := Try.f18) rfl H rfl ?_
 rw [has_no (fun q hq => hp.2.2 q (by omega))]; exact ⟨rfl, (S.sel [] rfl rfl)⟩

theorem elaw_Far (up : Bool) (pull drag body ride most : Int) (pcs : List Int) (CA : Option Addr) (cc : Nat) (num den : Int) (w : World) :
    Calls Try.prog 15 [.agg [.bool up, .int .i64 pull, .int .i64 drag, .int .i64 body, .int .i64 ride, .int .i64 most, .slice CA pcs.length cc, .int .i64 num, .int .i64 den].toArray].toArray w (Ret (fun v w' => v = .bool (decide (10 < (pcs.length : Int))) ∧ St w noF [] w')) := by
 refine enter Try.func15 rfl Try.ntmps15 rfl (fun a H => ?_)
 have S := St.start w
 refine seq_list fun K1 k1 => ?_
 refine list_box H rfl S rfl rfl ?_;clear H a S;intro b1 _ a hb1 hbw1 S H
 refine ls 1 H <| sr 1 rfl <| sE ?_;clear H a;intro a H
 refine k1 _ _ ?_;clear k1 K1
 refine sS H fun K2 k2=>sf fo_53_6 rfl <| sl S 0 one_25 rfl rfl rfl <| sL sl_25 rfl <| sr 2 rfl <| sE ?_;clear H a;intro a H
 refine k2 _ ?_;clear k2 K2
 refine wp_ret ?_
 refine ret1 (fn := Try.f15) rfl H rfl ?_
 exact ⟨rfl, (S.sel [] rfl rfl)⟩

theorem en_check (up : Bool) (pull drag body ride most : Int) (pcs : List Int) (CA : Option Addr) (cc : Nat) (num den : Int) (flow pace : Int) (w : World) (hcs : InS w noF 1 CA pcs.length (icl pcs)) (hcn : pcs.length ≤ 9223372036854775807) (hb : bandE pull drag body ride most pcs num den = 0) (hpp : hasI pcs pace = true) (hf : 0 ≤ flow ∧ flow ≤ 100) :
    Calls Try.prog 40 [.agg [.bool up, .int .i64 pull, .int .i64 drag, .int .i64 body, .int .i64 ride, .int .i64 most, .slice CA pcs.length cc, .int .i64 num, .int .i64 den].toArray, .int .i64 flow, .int .i64 pace].toArray w (Ret (fun v w' => v = .int .i64 0 ∧ St w noF [] w')) := by
 refine enter Try.func40 rfl Try.ntmps40 rfl (fun a H => ?_)
 have S := St.start w
 refine seq_list fun K1 k1 => ?_
 refine list_box H rfl S rfl rfl ?_;clear H a S;intro b3 _ a hb3 hbw3 S H
 refine ls 1 H <| sr 1 rfl <| sE ?_;clear H a;intro a H
 refine k1 _ _ ?_;clear k1 K1
 refine wp_seq_k fun K2 k2 => ?_
 refine seq_list fun K3 k3 => ?_
 refine ls 1 H <| sd ((does_loadBox agg_53 sz_53 rfl S (i := 0) rfl rfl)) <| sE ?_;clear H a;intro a H
 refine list_call H rfl rfl Try.func56 rfl rfl (en_Check up pull drag body ride most pcs CA cc num den _ (hcs.now S) hcn) ?_;clear H a
 rintro _ _ a ⟨rfl, S2⟩ H
 replace S := S.call S2;clear S2
 rw [hb] at H
 refine ls 1 H <| sr 1 rfl <| sE ?_;clear H a;intro a H
 refine k3 _ _ ?_;clear k3 K3
 refine wp_block ?_
 refine sS H fun K4 k4=>sr 3 rfl <| sE ?_;clear H a;intro a H
 refine k4 _ ?_;clear k4 K4
 refine condN H rfl (fun hc1 => ?_) (fun hc1 => ?_)
 ·skip
  exfalso; simp at hc1
 replace H := H.keep [1, 2, 3] rfl
 refine seq_list fun K5 k5 => ?_
 refine ls 3 H <| sf fo_53_6 rfl <| sl S 0 one_25 rfl rfl rfl <| sr 1 rfl <| sE ?_;clear H a;intro a H
 refine list_call H rfl rfl Try.func48 rfl rfl (slices_Contains pcs CA cc _ _ (hcs.now S) hcn) ?_;clear H a
 rintro _ _ a ⟨rfl, S2⟩ H
 replace S := S.call S2;clear S2
 rw [hpp] at H
 refine ls 2 H <| sr 2 rfl <| sE ?_;clear H a;intro a H
 refine k5 _ _ ?_;clear k5 K5
 refine cond_ H rfl (fun hc2 => ?_) (fun hc2 => ?_)
 ·skip
  skip
  cases hc2
 skip
 replace H := H.keep [1] rfl
 refine sS H fun K6 k6=>sr 1 rfl <| sc rfl Try.func57 rfl rfl (en_from0 _ _ _) <| sr 2 rfl <| sE ?_;clear H a;intro a H
 refine k6 _ ?_;clear k6 K6
 refine cond_ H rfl (fun hc3 => ?_) (fun hc3 => ?_)
 ·skip
  try simp only [o1,o2,o3,o4,o5,o6,o7,o8,o9,oa] at hc3
  exfalso; omega
 try simp only [o1,o2,o3,o4,o5,o6,o7,o8,o9,oa] at hc3
 refine wp_skip ?_
 refine k2 _ _ ?_
 refine sS H fun K7 k7=>sr 1 rfl <| sE ?_;clear H a;intro a H
 refine k7 _ ?_;clear k7 K7
 refine wp_ret ?_
 refine ret1 (fn := Try.f40) rfl H rfl ?_
 exact ⟨rfl, (S.sel [] rfl rfl)⟩

theorem en_load (up : Bool) (pull drag body ride most : Int) (pcs : List Int) (CA : Option Addr) (cc : Nat) (num den : Int) (flow pace : Int) (w : World) (h0 : 0 ≤ flow * ride ∧ flow * ride ≤ 100000) (h1 : 1 ≤ pace ∧ pace ≤ 100) (h2 : 0 ≤ (flow * ride + pace - 1) / pace * body ∧ (flow * ride + pace - 1) / pace * body ≤ 1000000000) :
    Calls Try.prog 41 [.agg [.bool up, .int .i64 pull, .int .i64 drag, .int .i64 body, .int .i64 ride, .int .i64 most, .slice CA pcs.length cc, .int .i64 num, .int .i64 den].toArray, .int .i64 flow, .int .i64 pace].toArray w (Ret (fun v w' => v = .int .i64 ((flow * ride + pace - 1) / pace * body) ∧ St w noF [] w')) := by
 refine enter Try.func41 rfl Try.ntmps41 rfl (fun a H => ?_)
 have S := St.start w
 refine seq_list fun K1 k1 => ?_
 refine list_box H rfl S rfl rfl ?_;clear H a S;intro b3 _ a hb3 hbw3 S H
 refine ls 1 H <| sr 1 rfl <| sE ?_;clear H a;intro a H
 refine k1 _ _ ?_;clear k1 K1
 replace H := H.keep [1, 2, 3] rfl
 replace S := S.drew
 refine sD H fun K2 k2=>sr 1 rfl <| sf fo_53_4 rfl <| sl S 0 one_3 rfl rfl rfl <| sd (does_mul rfl rfl (by unfold i64ok; omega)) <| sr 1 rfl <| sd (does_add rfl rfl (by unfold i64ok; omega)) <| sd (does_sub rfl rfl (by unfold i64ok; omega)) <| sr 1 rfl <| sd (does_quo rfl rfl (by omega) (by omega) (by omega)) <| sf fo_53_3 rfl <| sl S 0 one_3 rfl rfl rfl <| sd (does_mul rfl rfl (by unfold i64ok; omega)) <| sr 1 rfl <| sE ?_;clear H a;intro a H
 refine k2 _ ?_;clear k2 K2
 refine wp_ret ?_
 refine ret1 (fn := Try.f41) rfl H rfl ?_
 exact ⟨rfl, (S.sel [] rfl rfl)⟩

theorem en_Load (up : Bool) (pull drag body ride most : Int) (pcs : List Int) (CA : Option Addr) (cc : Nat) (num den : Int) (flow pace : Int) (w : World) (hcs : InS w noF 1 CA pcs.length (icl pcs)) (hcn : pcs.length ≤ 9223372036854775807) (hb : bandE pull drag body ride most pcs num den = 0) (hpp : hasI pcs pace = true) (hf : 0 ≤ flow ∧ flow ≤ 100) :
    Calls Try.prog 19 [.agg [.bool up, .int .i64 pull, .int .i64 drag, .int .i64 body, .int .i64 ride, .int .i64 most, .slice CA pcs.length cc, .int .i64 num, .int .i64 den].toArray, .int .i64 flow, .int .i64 pace].toArray w (Ret (fun v w' => v = .tuple #[.int .i64 ((flow * ride + pace - 1) / pace * body), .int .i64 0] ∧ St w noF [] w')) := by
 obtain ⟨hbi, hbp⟩ := band_of hb
 unfold bandI at hbi
 obtain ⟨q9, hq9, hq8⟩ := has_in hpp
 have hpc := prvP_pos hbp q9 hq9
 rw [hq8] at hpc
 have hm0 : 0 ≤ flow * ride ∧ flow * ride ≤ 100 * 1000 := ⟨Int.mul_nonneg hf.1 (by omega), Int.mul_le_mul hf.2 (by omega) (by omega) (by omega)⟩
 have hd0 : 0 ≤ (flow * ride + pace - 1) / pace := Int.ediv_nonneg (by omega) (by omega)
 have hd1 : (flow * ride + pace - 1) / pace ≤ flow * ride + pace - 1 := Int.ediv_le_self _ (by omega)
 have hm1 : 0 ≤ (flow * ride + pace - 1) / pace * body ∧ (flow * ride + pace - 1) / pace * body ≤ 1000000 * 100 := ⟨Int.mul_nonneg hd0 (by omega), Int.mul_le_mul (by omega) (by omega) (by omega) (by omega)⟩
 refine enter Try.func19 rfl Try.ntmps19 rfl (fun a H => ?_)
 have S := St.start w
 refine seq_list fun K1 k1 => ?_
 refine list_box H rfl S rfl rfl ?_;clear H a S;intro b3 _ a hb3 hbw3 S H
 refine ls 2 H <| sr 2 rfl <| sE ?_;clear H a;intro a H
 refine k1 _ _ ?_;clear k1 K1
 refine wp_seq_k fun K2 k2 => ?_
 refine seq_list fun K3 k3 => ?_
 refine ls 3 H <| sd ((does_loadBox agg_53 sz_53 rfl S (i := 0) rfl rfl)) <| sr 2 rfl <| sE ?_;clear H a;intro a H
 refine list_call H rfl rfl Try.func40 rfl rfl (en_check up pull drag body ride most pcs CA cc num den flow pace _ (hcs.now S) hcn hb hpp hf) ?_;clear H a
 rintro _ _ a ⟨rfl, S2⟩ H
 replace S := S.call S2;clear S2
 refine ls 1 H <| sr 1 rfl <| sE ?_;clear H a;intro a H
 refine k3 _ _ ?_;clear k3 K3
 replace H := H.keep [1, 2, 3, 8] rfl
 refine sS H fun K4 k4=>sr 2 rfl <| sE ?_;clear H a;intro a H
 refine k4 _ ?_;clear k4 K4
 refine condN H rfl (fun hc1 => ?_) (fun hc1 => ?_)
 ·skip
  exfalso; simp at hc1
 refine wp_skip ?_
 refine k2 _ _ ?_
 refine seq_list fun K5 k5 => ?_
 refine ls 3 H <| sd ((does_loadBox agg_53 sz_53 rfl S (i := 0) rfl rfl)) <| sr 2 rfl <| sE ?_;clear H a;intro a H
 refine list_call H rfl rfl Try.func41 rfl rfl (en_load up pull drag body ride most pcs CA cc num den flow pace _ (by omega) (by omega) (by omega)) ?_;clear H a
 rintro _ _ a ⟨rfl, S2⟩ H
 replace S := S.call S2;clear S2
 refine ls 2 H <| sr 2 rfl <| sE ?_;clear H a;intro a H
 refine k5 _ _ ?_;clear k5 K5
 refine wp_ret ?_
 refine ret2 (fn := Try.f19) rfl H rfl rfl ?_
 exact ⟨rfl, (S.sel [] rfl rfl)⟩

end Go.Proofs.Ytdepakimbagonaa
